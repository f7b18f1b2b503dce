/-
  typed at leafWires: wires, isValid. Own work; printed by wip/parTy.py.
-/
import Derived.Test.YtbljmfcifljkaaaGreatDoorUE
import Derived.Test.YtbljmfcifljkaaaGreatDoorUG
import Derived.Test.YtbljmfcifljkaaaGreatDoorUC
import Derived.Lib.AppendZeros
import Derived.Lib.AppendZerosOnto
import Derived.Test.YtbljmfcifljkaaaGreatDoorUAX
import Derived.Test.YtbljmfcifljkaaaGreatDoorUT
import Derived.Test.YtbljmfcifljkaaaGreatDoorUW
import Derived.Test.YtbljmfcifljkaaaGreatDoorUF
import Derived.Test.YtbljmfcifljkaaaGreatDoorURU
set_option linter.all false
set_option maxRecDepth 100000
set_option maxHeartbeats 8000000
namespace Go.Proofs.YtbljmfcifljkaaaGreatDoor
open Go.RowKit
theorem typRes_nil (n:Nd):typRes [] n=leafRes n:=by
 unfold typRes
 by_cases h:n.kind=17
 ·rw [if_pos h]
  unfold leafRes
  by_cases he:n.name=ByteArray.empty
  ·rw [if_neg (by simp [he]),if_neg (by omega),if_neg (by omega),if_neg (by omega)];rfl
  ·rw [if_pos he];rfl
 ·rw [if_neg h]
theorem typedLf_any (v:Value) (ns:List Nd) (L:List Df) (hLe:L=[]) (w:World) (hv:NdsAt w v ns) (hn:ns.length≤1048576) (hs:∀ d ∈ ns,d.name.size≤1048576) :
  Calls Tryz.prog 183 #[v,.func (.func 184) #[] #[]] w (TypedPost L ns w):=by
 have hsm:∀ d ∈ L,Sm (d.inn,d.out):=by subst hLe;simp
 have hty:∀ n,typRes L n=leafRes n:=by subst hLe;exact typRes_nil
 have HTY:=Lib.hid hty
 clear hLe hty
 obtain ⟨a,cap,rfl,hc,hat⟩:=hv
 by_cases hl:1≤ns.length∧ns.length≤400
 ·have g1:inB ns.length 1 400=true:=by simp [inB];omega
  go_enter Tryz.func183,Tryz.ntmps183
  go_wp2_with (go_at_call 128;refine (within_any _ _ _ _).mono ?_;rintro e w1 ⟨rfl,rfl⟩)
  have hsm':∀ n x,leafT L n=some x → Sm x:=fun n x h=>leafT_sm hsm h
  obtain ⟨i0,hi,hz0,hz1,hz2⟩:=info_parts info147
  go_loopw [6,22] (fun v i wr=>∃ (k:Nat) (st:List W2),k≤ns.length∧i=.int .i64 k∧TypSt L ns w wr v k st) (fun _ i _=>ns.length - (intOf i).toNat)
  case atStart =>
   refine ⟨0,[],Nat.zero_le _,rfl,⟨?_,by simp⟩,(by simp [Hid]:Hid (typedGo (leafT L) ns []=typedGo (leafT L) (ns.drop 0) ([]:List W2).reverse)),(Below.refl _ _).alloc (by simp [resW]) _,Nat.le_refl _,.inl rfl⟩
   have:=World.ownsRow_lit (base:=w.heap.size+1) (size:=2) (e:=169) (resW w) #[] 0 (by simp [resW]) (by unfold maxLen;omega) rfl
   simpa [resW] using this
  case round =>
   obtain ⟨k,st,hk,rfl,hst⟩:=hrel
   obtain ⟨r0,r1,rf0,rf1,hsz,hbel⟩:=hst.facts
   by_cases hlt:k<ns.length
   ·obtain ⟨b,o,rfl,_,hnd⟩:=hat k hlt
    obtain ⟨c0,c1,c2⟩:=hnd.keep hbel
    have hnm:=hs ns[k] (List.getElem_mem _)
    clear hat hnd hs
    by_cases hk1:ns[k].kind=15∨ns[k].kind=16
    ·have hdrop:=List.drop_eq_getElem_cons hlt
     have hgo0:=hst.2.1
     have hkk:((ns[k].kind != 15)=false)∨((ns[k].kind != 15)=true∧(ns[k].kind != 16)=false):=by
      rcases hk1 with h|h <;> simp [h]
     by_cases hval:ns[k].value=0∧ns[k].name=ByteArray.empty
     ·obtain ⟨hv0,hm0⟩:=hval
      have gv:(ns[k].value != 0)=false:=by simp [hv0]
      have gn:(!ns[k].name.toList.isEmpty)=false:=by have:=(toList_nil_iff_emptyBytes _).2 hm0;simp [this]
      by_cases hlen:st.length<2
      ·have HT:Hid (typedL (leafT L) ns=none):=(show typedL (leafT L) ns=none by
        unfold typedL
        rw [if_pos hl,hgo0.out,hdrop,typedGo_short hk1 (by simpa using hlen)])
       have gl:(st.length:Int)<2:=by omega
       obtain ⟨ao,cp,rfl⟩:=owns_shape hst.1.1
       clear hv0 hm0 hdrop hgo0 hk1 hst
       rcases hkk with gk|⟨gk,gk'⟩
       all_goals
        go_wp2
        refine bodyPost_ret (v:=.tuple #[.agg #[.int .i64 0,.int .i64 0],.bool false]) (by simp [results,Tryz.results183,go_sem,hsz,r0,r1]) rfl ⟨(0,0),by rw [HT.out];rfl,by rw [HT.out];simp,?_⟩
        (repeat (first|(with_reducible refine Below.alloc ?_ ?_ _;rotate_left;(first|omega|(simp;done)|(simp;omega)))|(with_reducible refine Below.setCell ?_ ?_ _;rotate_left;(first|exact Nat.le_refl _|(simp;done)|(simp;omega)))|(with_reducible refine Below.drew ?_)));exact hbel
      ·obtain ⟨st0,p,q,rfl⟩:=last_two st hlen
       obtain ⟨g,cp,rfl,hgc,hgm,hgB,hgs⟩:=owns_some hst.1.1 (by simp)
       simp only [List.length_append,List.length_cons,List.length_nil,Nat.zero_add,Nat.reduceAdd] at hst hgc
       have hpq:Sm p∧Sm q:=⟨hst.1.2 p (by simp),hst.1.2 q (by simp)⟩
       have hown0:wr.ownsRow (w.heap.size+1) 169 2 (.slice (some ⟨g,0,none⟩) (st0.length+2) cp) (st0.length+2) ((st0 ++ [p,q]).flatMap wCells):=by
        have h0:=hst.1.1
        rw [show (st0 ++ [p,q]).length=st0.length+2 by simp] at h0
        exact h0
       have d0:=owns_cell wCells_len hown0 st0.length 0 (by simp) (by omega)
       have d1:=owns_cell wCells_len hown0 st0.length 1 (by simp) (by omega)
       have d2:=owns_cell wCells_len hown0 (st0.length+1) 0 (by simp) (by omega)
       have d3:=owns_cell wCells_len hown0 (st0.length+1) 1 (by simp) (by omega)
       simp [wCells] at d0 d1 d2 d3
       have gl:¬ ((st0.length:Int)+2)<2:=by omega
       have hl0:st0.length≤1048576:=by have:=hst.2.2.2.1;simp at this;omega
       have hgo1:∀ x,joinW ns[k].kind p q=some x → Hid (typedGo (leafT L) ns []=typedGo (leafT L) (ns.drop (k+1)) (x :: st0.reverse)):=fun x hx=>(show typedGo (leafT L) ns []=_ by
        rw [hgo0.out,hdrop]
        have e:(st0 ++ [p,q]).reverse=q :: p :: st0.reverse:=by simp
        rw [e,typedGo_join hk1 hv0 hm0 hx])
       have hgo2:joinW ns[k].kind p q=none → Hid (typedL (leafT L) ns=none):=fun hx=>(show typedL (leafT L) ns=none by
        unfold typedL
        have e:(st0 ++ [p,q]).reverse=q :: p :: st0.reverse:=by simp
        rw [if_pos hl,hgo0.out,hdrop,e,typedGo_clash hk1 hx])
       have hjok:=joinRes_ok ns[k].kind p q
       have HH:=And.intro hgo1 hgo2
       have HJ:=Lib.hid (And.intro HH hjok)
       clear hv0 hm0 hdrop hgo0 hk1 HH hjok hgo1 hgo2
       rcases hkk with gk|⟨gk,gk'⟩
       all_goals
        go_wp2_with fail
        have e1:IntKind.i64.wrap ((st0.length:Int)+2 - 1 - 1)=(st0.length:Int):=by rw [show (st0.length:Int)+2 - 1 - 1=(st0.length:Int) by omega];exact IntWalk.i64_in _ (by omega)
        have e2:((st0.length:Int)+2 - 1).toNat=st0.length+1:=by omega
        have e3:0≤(st0.length:Int)+2 - 1∧(st0.length:Int)+2 - 1<(st0.length:Int)+2:=by omega
        have e4:0≤(st0.length:Int)∧(st0.length:Int)<(st0.length:Int)+2:=by omega
        have e5:1≤(st0.length:Int)+2:=by omega
        refine region_acts (C:=Exc (NoT) _) 2 [0,1,2,3,4,5,6,7,8,9,10,11,12,13,14,15,16,17] (by kernel_rfl) (by kernel_rfl) (Exc.grows _ _) (Exc.refl _ _) ?_
        iterate 11 (apply x_st rfl rfl rfl;(focus intro u hc' hf';go_simp <;> rfl);intro K hK;go_simp;apply hK;clear hK K)
        refine x_call rfl rfl rfl (Exc.grows _ _) (Exc.refl _ _) 182 (fun K hK=>?_);apply Exists.intro;refine ⟨fun w' hw'=>?_,fun w' hw' hbw=>?_⟩;(focus go_simp;rfl);refine (joinWires_any _ p q _ hpq.1 hpq.2).mono ?_;rintro e w3 ⟨rfl,hb3⟩;refine ⟨_,rfl,hb3,fun hx=>?_⟩;go_simp;apply hK;clear hK K
        iterate 3 (apply x_st rfl rfl rfl;(focus intro u hc' hf';go_simp <;> rfl);intro K hK;go_simp;apply hK;clear hK K)
        refine x_make rfl rfl rfl (Exc.grows _ _) hx (fun b=>.pointer (some ⟨b,0,none⟩)) (fun K hK=>?_)
        apply Exists.intro
        refine ⟨fun w' hw'=>?_,fun bb w4 hw4 hb4 hbo hNb hnb=>?_⟩
        ·go_simp
         rfl
        go_simp
        refine hK _ _ _ ?_
        clear hK K
        refine x_do rfl rfl rfl (Exc.grows _ _) hw4 (fun K hK=>?_)
        intro w5 hw5 hb5
        obtain ⟨m0,m1,m2⟩:=made_cell ((hb5.block bb (made_cell hbo).2.2).trans hbo)
        refine ⟨(w5.setCell ⟨bb,0,none⟩ (.int .i64 (joinRes ns[k].kind p q).1.1)).setCell ⟨bb,1,none⟩ (.int .i64 (joinRes ns[k].kind p q).1.2),?_,⟨exc_set (exc_set hw5 (.inl hNb) _) (.inl hNb) _,by simp,fun j _ hj _=>by rw [Below.heap_setCell _ _ _ _ (fun h=>hj (by simp [h])),Below.heap_setCell _ _ _ _ (fun h=>hj (by simp [h]))]⟩,?_⟩
        ·go_simp
        go_simp
        refine hK _ _ _ ?_
        clear hK K
        iterate 1 (apply x_st rfl rfl rfl;(focus intro u hc' hf';go_simp <;> rfl);intro K hK;go_simp;apply hK;clear hK K)
        refine x_nil ?_
        have hb6:Below wr.heap.size wr ((w5.setCell ⟨bb,0,none⟩ (.int .i64 (joinRes ns[k].kind p q).1.1)).setCell ⟨bb,1,none⟩ (.int .i64 (joinRes ns[k].kind p q).1.2)):=by
         have h0:wr.heap.size≤bb:=by simp at hNb;omega
         exact (((((Below.refl _ _).alloc (Nat.le_refl _) _).drew.trans (hw5.toBelow.mono (by simp))).setCell h0 _).setCell h0 _)
        have n0:((w5.setCell ⟨bb,0,none⟩ (.int .i64 (joinRes ns[k].kind p q).1.1)).setCell ⟨bb,1,none⟩ (.int .i64 (joinRes ns[k].kind p q).1.2)).cell? ⟨bb,0,none⟩=some (.int .i64 (joinRes ns[k].kind p q).1.1):=by go_simp
        have n1:((w5.setCell ⟨bb,0,none⟩ (.int .i64 (joinRes ns[k].kind p q).1.1)).setCell ⟨bb,1,none⟩ (.int .i64 (joinRes ns[k].kind p q).1.2)).cell? ⟨bb,1,none⟩=some (.int .i64 (joinRes ns[k].kind p q).1.2):=by go_simp
        have hbb:wr.heap.size≤bb:=by simp at hNb;omega
        have hbb2:bb<((w5.setCell ⟨bb,0,none⟩ (.int .i64 (joinRes ns[k].kind p q).1.1)).setCell ⟨bb,1,none⟩ (.int .i64 (joinRes ns[k].kind p q).1.2)).heap.size:=by simpa using m2
        generalize (w5.setCell ⟨bb,0,none⟩ (.int .i64 (joinRes ns[k].kind p q).1.1)).setCell ⟨bb,1,none⟩ (.int .i64 (joinRes ns[k].kind p q).1.2)=w6 at hb6 n0 n1 hbb2
        obtain ⟨hc6,hf6,hs6⟩:=bcell hb6
        have q0:=hc6 w.heap.size 0 hsz
        have q1:=hc6 w.heap.size 1 hsz
        rw [r0] at q0
        rw [r1] at q1
        have hz6:w.heap.size<w6.heap.size:=by omega
        clear hw4 hb4 hbo hNb hw5 hb5 m0 m1 m2 hx hb3
        cases hj2:(joinRes ns[k].kind p q).2
        ·have HT:Hid (typedL (leafT L) ns=none):=HJ.out.1.2 (by rw [← HJ.out.2,if_neg (by simp [hj2])])
         clear HJ hj2
         go_wp2
         refine bodyPost_ret (v:=.tuple #[.agg #[.int .i64 0,.int .i64 0],.bool false]) (by simp [results,Tryz.results183,go_sem,hz6,q0,q1]) rfl ⟨(0,0),by rw [HT.out];rfl,by rw [HT.out];simp,?_⟩
         (repeat (first|(with_reducible refine Below.alloc ?_ ?_ _;rotate_left;(first|omega|(simp;done)|(simp;omega)))|(with_reducible refine Below.setCell ?_ ?_ _;rotate_left;(first|exact Nat.le_refl _|(simp;done)|(simp;omega)))|(with_reducible refine Below.drew ?_)));exact hbel.trans (hb6.mono (by omega))
        ·have hjw:joinW ns[k].kind p q=some (joinRes ns[k].kind p q).1:=by rw [← HJ.out.2,if_pos hj2]
         have hgo:=HJ.out.1.1 _ hjw
         have hxs:=joinW_sm hpq.1 hpq.2 hjw
         clear HJ hj2 hjw
         generalize (joinRes ns[k].kind p q).1=x at *
         have e6:0≤(st0.length:Int)∧(st0.length:Int)≤(cp:Int):=by omega
         have hbg:¬ bb=g:=by omega
         have hown6:w6.ownsRow (w.heap.size+1) 169 2 (.slice (some ⟨g,0,none⟩) st0.length cp) st0.length (st0.flatMap wCells):=by
          have h0:=owns_take (owns_keep hb6 hown0) st0.length (by omega)
          rw [List.flatMap_append,List.take_left' (by have:=flat_length wCells_len st0;omega)] at h0
          exact h0
         go_wp2_with fail
         refine region_acts (C:=Exc ((fun j=>j=g)) _) 2 [0,1,2,3,4,5,6,7] (by kernel_rfl) (by kernel_rfl) (Exc.grows _ _) (Exc.refl _ _) ?_
         iterate 4 (apply x_sT rfl rfl rfl;(focus intro u hc' hf';(try simp only [World.size_drew] at hc' hf');go_simp <;> rfl);intro K hK;go_simp;apply hK;clear hK K)
         refine x_still rfl rfl rfl (fun K hK=>?_)
         apply Exists.intro
         refine ⟨fun w' hw'=>?_,?_⟩
         ·obtain ⟨hc9,hf9⟩:=hw'.cell
          have hq:=hc9 bb 0 (by simp;exact hbb2) hbg
          have hq1:=hc9 bb 1 (by simp;exact hbb2) hbg
          go_simp
          rfl
         go_simp
         refine hK _ _ _ ?_
         clear hK K
         refine x_make rfl rfl rfl (Exc.grows _ _) (Exc.refl _ _) (fun b=>.slice (some ⟨b,0,none⟩) 1 1) (fun K hK=>?_)
         apply Exists.intro
         refine ⟨fun w' hw'=>?_,fun b7 w7 hw7 hb7 hbo hNb hnb=>?_⟩
         ·go_simp
          rfl
         go_simp
         refine hK _ _ _ ?_
         clear hK K
         refine x_fits rfl rfl rfl hw7 _ _ 248 rfl (w.heap.size+1) 169 i0 2 Tryz.underlying248 hi hz1 g st0.length cp (st0.flatMap wCells) rfl (by simp;omega) rfl ⟨b7,0,none⟩ 1 1 [.int .i64 x.1,.int .i64 x.2] rfl rfl ?c1 (by omega) ?c2 ?_
         case c1=>intro u hu;simp at hu;rcases hu with rfl|rfl <;> rfl
         case c2 =>
          intro w8 hw8 hb8
          refine ⟨owns_keep hb8 (owns_keep hb7 hown6.drew),?_⟩
          obtain ⟨m0,m1,m2⟩:=made_cell ((hb8.block b7 (made_cell hbo).2.2).trans hbo)
          intro j u hj
          match j,hj with
          | 0,hj=>simp at hj;subst hj;simp [Addr.add,m0]
          | 1,hj=>simp at hj;subst hj;simp [Addr.add,m0]
         intro K hK w8 w9 hw8 hb8 hown9 hgr9 hw9
         go_simp
         refine hK _ _ _ ?_
         clear hK K
         iterate 1 (apply x_sT rfl rfl rfl;(focus intro u hc' hf';(try simp only [World.size_drew] at hc' hf');go_simp <;> rfl);intro K hK;go_simp;apply hK;clear hK K)
         refine x_nil ?_
         have hb9:Below (w.heap.size+1) wr w9:=(((hb6.mono (by omega)).drew.trans (hb7.mono (by simp;omega))).trans (hb8.mono (by have:=hb7.size;simp at this;omega))).grown hgr9 (by have:=hb7.size;have:=hb8.size;simp at *;omega) (fun j hj=>by cases hj;omega)
         have hst9:=typ_join hst hgo hxs hb9 hown9
         clear hst hgo hxs hb9 hown9 hgr9 hw9 hb8 hw8 hb7 hw7 hown6 hown0
         go_wp2
         go_roundw
         case rel=>exact ⟨k+1,_,by omega,by go_num,hst9⟩
         case measure=>simp [intOf];omega
     ·have HT:Hid (typedL (leafT L) ns=none):=(show typedL (leafT L) ns=none by
       unfold typedL
       rw [if_pos hl,hgo0.out,hdrop,typedGo_bad hk1 hval])
      have hvv:(ns[k].value != 0)=true∨((ns[k].value != 0)=false∧(!ns[k].name.toList.isEmpty)=true):=by
       by_cases h0:ns[k].value=0
       ·exact .inr ⟨by simp [h0],by simpa using fun h=>hval ⟨h0,(toList_nil_iff_emptyBytes _).1 h⟩⟩
       ·exact .inl (by simp [h0])
      clear hval hdrop hgo0 hk1 hst
      rcases hkk with gk|⟨gk,gk'⟩ <;> rcases hvv with gv|⟨gv,gv'⟩
      all_goals
       go_wp2
       refine bodyPost_ret (v:=.tuple #[.agg #[.int .i64 0,.int .i64 0],.bool false]) (by simp [results,Tryz.results183,go_sem,hsz,r0,r1]) rfl ⟨(0,0),by rw [HT.out];rfl,by rw [HT.out];simp,?_⟩
       (repeat (first|(with_reducible refine Below.alloc ?_ ?_ _;rotate_left;(first|omega|(simp;done)|(simp;omega)))|(with_reducible refine Below.setCell ?_ ?_ _;rotate_left;(first|exact Nat.le_refl _|(simp;done)|(simp;omega)))|(with_reducible refine Below.drew ?_)));exact hbel
    ·have g15:(ns[k].kind != 15)=true:=by simp;omega
     have g16:(ns[k].kind != 16)=true:=by simp;omega
     have hlw:=leafWires_any ns[k]
     rw [← HTY.out ns[k]] at hlw
     cases hok:(typRes L ns[k]).2
     ·have HT:Hid (typedL (leafT L) ns=none):=(show typedL (leafT L) ns=none by
       unfold typedL
       rw [if_pos hl,hst.2.1.out,List.drop_eq_getElem_cons hlt,typedGo_no hk1 (by simp [leafT,hok])])
      have HOK:=Lib.hid hok
      clear hok hk1
      go_wp2_with (go_at_call 184;refine (hlw _).mono ?_;rintro e w2 ⟨rfl,hb2⟩;rw [HOK.out];obtain ⟨hc2,hf2,hs2⟩:=bcell hb2;have q0:=cell_keep hb2 (alloc_keep r0 _);have q1:=cell_keep hb2 (alloc_keep r1 _);simp only [World.size_alloc] at hs2 hb2;have hz2:w.heap.size<w2.heap.size:=by omega)
      refine bodyPost_ret (v:=.tuple #[.agg #[.int .i64 0,.int .i64 0],.bool false]) (by simp [results,Tryz.results183,go_sem,hz2,q0,q1]) rfl ⟨(0,0),by rw [HT.out];rfl,by rw [HT.out];simp,?_⟩
      (repeat (first|(with_reducible refine Below.alloc ?_ ?_ _;rotate_left;(first|omega|(simp;done)|(simp;omega)))|(with_reducible refine Below.setCell ?_ ?_ _;rotate_left;(first|exact Nat.le_refl _|(simp;done)|(simp;omega)))|(with_reducible refine Below.drew ?_)));exact (hbel.alloc (by omega) _).trans (hb2.mono (by omega))
     ·have hlf:leafT L ns[k]=some (typRes L ns[k]).1:=by simp [leafT,hok]
      have hx:=hsm' _ _ hlf
      have hgo:Hid (typedGo (leafT L) ns []=typedGo (leafT L) (ns.drop (k+1)) ((typRes L ns[k]).1 :: st.reverse)):=(show typedGo (leafT L) ns []=_ by
       rw [hst.2.1.out,List.drop_eq_getElem_cons hlt,typedGo_push hk1 hlf])
      have HOK:=Lib.hid hok
      clear hok hk1 hlf
      obtain ⟨x,hxe⟩:∃ x,(typRes L ns[k]).1=x:=⟨_,rfl⟩
      rw [hxe] at hx hgo
      have HX:=Lib.hid hxe
      clear hxe
      have hown0:=hst.1.1
      have hstl:=hst.2.2.2.1
      go_wp2_with (first|(go_at_call 184;refine (hlw _).mono ?_;rintro e w2 ⟨rfl,hb2⟩;rw [HOK.out,HX.out];have hown2:=owns_keep hb2 (hown0.alloc _);have hz2':=hb2.size;simp only [World.size_alloc] at hz2')|(at_builtin;refine wpList_append_own _ rfl _ _ 248 rfl (w.heap.size+1) 169 i0 _ 2 16 Tryz.underlying248 hi hz0 hz1 hz2 rfl (by decide) _ _ _ rfl ((hown2.alloc _).alloc _) ⟨w2.heap.size+1,0,none⟩ 1 1 [.int .i64 x.1,.int .i64 x.2] rfl rfl ?c1 ?c2 ?c3 ?c4 ?c5 ?_))
      case c1 =>
       intro j u hj
       match j,hj with
       | 0,hj=>simp at hj;subst hj;simp [Addr.add]
       | 1,hj=>simp at hj;subst hj;simp [Addr.add]
      case c2=>intro u hu;simp at hu;rcases hu with rfl|rfl <;> rfl
      case c3=>unfold maxLen;omega
      case c4=>omega
      case c5=>simp;omega
      intro v' w3 hown3 hgrow _
      have hst3:=typ_push hst hgo hx hb2 hown3 hgrow
      clear hown3 hgrow hown2 hown0 hb2 hst hgo
      go_wp2
      go_roundw
      case rel=>exact ⟨k+1,_,by omega,by go_num,hst3⟩
      case measure=>simp [intOf];omega
   ·have hkn:k=ns.length:=by omega
    subst hkn
    have hne:st ≠ []:=hst.2.2.2.2.resolve_left (by omega)
    obtain ⟨x,st1,rfl⟩:=List.exists_cons_of_ne_nil hne
    obtain ⟨g,cp,rfl,hgc,hgm,hgB,hgs⟩:=owns_some hst.1.1 (by simp)
    have d0:=owns_cell wCells_len hst.1.1 0 0 (by simp) (by omega)
    have d1:=owns_cell wCells_len hst.1.1 0 1 (by simp) (by omega)
    simp [wCells] at d0 d1
    have hgo:=hst.2.1.out
    rw [List.drop_length] at hgo
    clear hne hat hst
    rcases st1 with _|⟨y,st1⟩
    ·have HT:Hid (typedL (leafT L) ns=some x):=(show typedL (leafT L) ns=some x by
      unfold typedL
      rw [if_pos hl,hgo]
      rfl)
     clear hgo
     go_wp2
     refine bodyPost_ret (v:=.tuple #[.agg #[.int .i64 x.1,.int .i64 x.2],.bool true]) (by simp [results,Tryz.results183,go_sem,hsz,r0,r1,rf0,rf1]) rfl ⟨x,by rw [HT.out];rfl,by rw [HT.out];simp,?_⟩
     (repeat (first|(with_reducible refine Below.alloc ?_ ?_ _;rotate_left;(first|omega|(simp;done)|(simp;omega)))|(with_reducible refine Below.setCell ?_ ?_ _;rotate_left;(first|exact Nat.le_refl _|(simp;done)|(simp;omega)))|(with_reducible refine Below.drew ?_)));exact hbel
    ·have HT:Hid (typedL (leafT L) ns=none):=(show typedL (leafT L) ns=none by
      unfold typedL
      rw [if_pos hl,hgo]
      have e:(x :: y :: st1).reverse=st1.reverse ++ [y,x]:=by simp
      rw [e]
      rcases st1.reverse with _|⟨a,_|⟨b,r⟩⟩ <;> rfl)
     clear hgo
     go_wp2
     refine bodyPost_ret (v:=.tuple #[.agg #[.int .i64 x.1,.int .i64 x.2],.bool false]) (by simp [results,Tryz.results183,go_sem,hsz,r0,r1,rf0,rf1];omega) rfl ⟨x,by rw [HT.out];rfl,by rw [HT.out];simp,?_⟩
     (repeat (first|(with_reducible refine Below.alloc ?_ ?_ _;rotate_left;(first|omega|(simp;done)|(simp;omega)))|(with_reducible refine Below.setCell ?_ ?_ _;rotate_left;(first|exact Nat.le_refl _|(simp;done)|(simp;omega)))|(with_reducible refine Below.drew ?_)));exact hbel
 ·have g1:inB ns.length 1 400=false:=by simp [inB];omega
  have HT:=Lib.hid (show typedL (leafT L) ns=none by unfold typedL;rw [if_neg hl])
  go_enter Tryz.func183,Tryz.ntmps183
  go_wp2_with (go_at_call 128;refine (within_any _ _ _ _).mono ?_;rintro e w1 ⟨rfl,rfl⟩)
  refine bodyPost_ret (v:=.tuple #[.agg #[.int .i64 0,.int .i64 0],.bool false]) (by simp [results,Tryz.results183,go_sem]) rfl ⟨(0,0),by rw [HT.out];rfl,by rw [HT.out];simp,?_⟩
  repeat (first|exact Below.refl _ _|with_reducible refine Below.drew ?_|refine Below.alloc ?_ (by simp <;> omega) _)
end Go.Proofs.YtbljmfcifljkaaaGreatDoor
/-
  wires and isValid of a term; slices.Grow, slices.Concat, joinNodes. Own work.
-/
namespace Go.Proofs.YtbljmfcifljkaaaGreatDoor
open Go.RowKit
set_option maxRecDepth 100000
set_option maxHeartbeats 4000000
theorem wiresT_any (v:Value) (ns:List Nd) (w:World) (hv:NdsAt w v ns) (hn:ns.length≤1048576) (hs:∀ d ∈ ns,d.name.size≤1048576) :
  Calls Tryz.prog 115 #[.agg #[v]] w (TypedPost [] ns w):=by
 obtain ⟨a,cap,rfl⟩:=hv.slice
 have hB:Below w.heap.size w ((w.alloc (.cells #[.slice a ns.length cap] 30)).alloc (.cells #[.int .i64 0,.int .i64 0] 169)):=((Below.refl _ _).alloc (Nat.le_refl _) _).alloc (by simp) _
 go_enter Tryz.func115,Tryz.ntmps115
 go_wp2_with (go_at_call 183;refine (typedLf_any _ ns [] rfl _ (hv.keep hB) hn hs).mono ?_;rintro e w2 ⟨x,rfl,hx,hb2⟩;have hs2:=hb2.size;simp only [World.size_alloc] at hs2;have q0:=hb2.cell (p:=⟨w.heap.size+1,0,none⟩) (by simp);have q1:=hb2.cell (p:=⟨w.heap.size+1,1,none⟩) (by simp);have q2:=hb2.frozen (p:=⟨w.heap.size+1,0,none⟩) (by simp);have q3:=hb2.frozen (p:=⟨w.heap.size+1,1,none⟩) (by simp);simp [go_sem] at q0 q1 q2 q3;have hz2:w.heap.size+1<w2.heap.size:=by omega)
 refine bodyPost_ret (v:=.tuple #[.agg #[.int .i64 x.1,.int .i64 x.2],.bool (typedL (leafT []) ns).isSome]) (by simp [results,Tryz.results115,go_sem,q0,q1,q2,q3,hz2]) rfl ⟨x,rfl,hx,?_⟩
 exact ((hB.trans (hb2.mono (by simp;omega))).setCell (by simp) _).setCell (by simp) _
theorem isValidT_any (v:Value) (ns:List Nd) (w:World) (hv:NdsAt w v ns) (hn:ns.length≤1048576) (hs:∀ d ∈ ns,d.name.size≤1048576) :
  Calls Tryz.prog 228 #[.agg #[v]] w fun e w'=>e=.returned (.bool (typedL (leafT []) ns).isSome)∧Below w.heap.size w w':=by
 obtain ⟨a,cap,rfl⟩:=hv.slice
 have hB:Below w.heap.size w (w.alloc (.cells #[.slice a ns.length cap] 30)):=(Below.refl _ _).alloc (Nat.le_refl _) _
 go_enter Tryz.func228,Tryz.ntmps228
 go_wp2_with (go_at_call 115;refine (wiresT_any _ ns _ (hv.keep hB) hn hs).mono ?_;rintro e w2 ⟨x,rfl,hx,hb2⟩)
 go_ret
 have hb3:=hB.trans (hb2.mono (by simp))
 exact ⟨rfl,hb3.alloc hb3.size _⟩
theorem infoNd:(Tryz.prog.info? 144).map (fun i=>(i.zero,i.size,i.bytes))=some (some (.agg #[.int .i64 0,.int .i64 0,.string ⟨#[]⟩]),3,32):=by kernel_rfl
theorem growNil_any (n:Nat) (w:World) (h0:1≤n) (hn:n≤4194304) :
  Calls Tryz.prog 396 #[.slice none 0 0,.int .i64 n] w fun e w'=>∃ cap,n≤cap∧e=.returned (.slice (some ⟨w.heap.size,0,none⟩) 0 cap)∧NdsOwn w' w.heap.size (.slice (some ⟨w.heap.size,0,none⟩) 0 cap) []∧Below w.heap.size w w':=by
 obtain ⟨i0,hi,hz0,hz1,hz2⟩:=info_parts infoNd
 go_enter Tryz.func396,Tryz.ntmps396
 have g1:¬ (n:Int)<0:=by omega
 have g2:(0:Int)<n:=by omega
 obtain ⟨G,hG⟩:∃ G,G=grownCap w n 0 144:=⟨_,rfl⟩
 have hGn:n≤G:=by rw [hG];exact grownCap_ge w _ _ _
 have hGm:G≤maxLen:=by rw [hG];exact grownCap_le_maxLen w _ _ _ (by unfold maxLen;omega)
 have hG63:G≤9223372036854775807:=by unfold maxLen at hGm;omega
 have hr:∀ ty,(Builtin.append_ #[28,3] ty #[.slice none 0 0,.int .i64 (n:Int)]).run Tryz.prog w=.ok (.slice (some ⟨w.heap.size,0,none⟩) n G) (w.drew.alloc (.cells (Builtin.zeroCells #[.int .i64 0,.int .i64 0,.string ⟨#[]⟩] n ++ Builtin.zeroCells #[.int .i64 0,.int .i64 0,.string ⟨#[]⟩] (G - n)) 144)):=fun ty=>by
  have h:=Lib.run_append_nil_zeros (P:=Tryz.prog) w 28 3 ty 144 i0 _ .i64 .i64 Tryz.underlying28 Tryz.underlying3 hi hz0 n h0 (by omega) (by omega) (by rw [hz2];omega)
  rw [hG]
  exact h
 have hown:NdsOwn (w.drew.alloc (.cells (Builtin.zeroCells #[.int .i64 0,.int .i64 0,.string ⟨#[]⟩] n ++ Builtin.zeroCells #[.int .i64 0,.int .i64 0,.string ⟨#[]⟩] (G - n)) 144)) w.heap.size (.slice (some ⟨w.heap.size,0,none⟩) 0 G) []:=by
  have h:=World.ownsRow_made (base:=w.heap.size) (size:=3) (e:=144) w.drew (Builtin.zeroCells #[.int .i64 0,.int .i64 0,.string ⟨#[]⟩] n ++ Builtin.zeroCells #[.int .i64 0,.int .i64 0,.string ⟨#[]⟩] (G - n)) G (by simp) hGm (by rw [Array.size_append,size_zeroCells,size_zeroCells];show n * 3+(G - n) * 3=G * 3;omega)
  unfold NdsOwn
  simpa using h
 have hbel:Below w.heap.size w (w.drew.alloc (.cells (Builtin.zeroCells #[.int .i64 0,.int .i64 0,.string ⟨#[]⟩] n ++ Builtin.zeroCells #[.int .i64 0,.int .i64 0,.string ⟨#[]⟩] (G - n)) 144)):=(Below.refl _ _).drew.alloc (by simp) _
 have HO:=Lib.hid (And.intro hown hbel)
 clear hG hown hbel
 go_wp2_with (at_builtin;refine Lib.wpList_append_run _ rfl _ _ _ _ rfl _ _ rfl rfl _ _ (hr _) ?_)
 go_ret
 exact ⟨G,hGn,rfl,HO.out.1,HO.out.2⟩
theorem concat_any (gg:Nat) (va vb:Value) (xs ys:List Nd) (w:World) (h0:w.cell? ⟨gg,0,none⟩=some va) (h1:w.cell? ⟨gg,1,none⟩=some vb) (ha:NdsAt w va xs) (hb:NdsAt w vb ys) (hn:xs.length≤100000) (hm:ys.length≤100000) (hp:1≤xs.length) :
  Calls Tryz.prog 395 #[.slice (some ⟨gg,0,none⟩) 2 2] w fun e w'=>∃ v',e=.returned v'∧NdsOwn w' w.heap.size v' (xs ++ ys)∧Below w.heap.size w w':=by
 have gz:=cell_lt h0
 obtain ⟨aa,ca,rfl⟩:=ha.slice
 obtain ⟨ab,cb,rfl⟩:=hb.slice
 have g1:¬ (xs.length:Int)<0:=by omega
 have g2:¬ (xs.length:Int)+(ys.length:Int)<0:=by omega
 have g3:IntKind.i64.wrap ((xs.length:Int)+(ys.length:Int))=(xs.length:Int)+(ys.length:Int):=IntWalk.i64_in _ (by omega)
 have hgr:=fun w'=>growNil_any (xs.length+ys.length) w' (by omega) (by omega)
 rw [show ((xs.length+ys.length:Nat):Int)=(xs.length:Int)+(ys.length:Int) by omega] at hgr
 have HG:=Lib.hid hgr
 clear hgr
 go_enter Tryz.func395,Tryz.ntmps395
 go_wp2_with fail
 refine wp_loop_rounds 3 ?_
 rw [rounds_succ]
 go_wp2_with fail
 rw [rounds_succ]
 go_wp2_with fail
 rw [rounds_succ]
 go_wp2_with (go_at_call 396;refine (HG.out _).mono ?_;rintro e w1 ⟨cap,hcap,rfl,ho1,hb1⟩;have k0:=cell_keep hb1 h0;have k1:=cell_keep hb1 h1;have kz:=cell_lt k0)
 refine wp_loop_rounds 3 ?_
 rw [rounds_succ]
 go_wp2_with (at_builtin;go_must (refine hd_src (ha.keep hb1) (by omega) rfl (.tmp 31) (.tmp 32) rfl w.heap.size _ _ rfl rfl ho1 hb1.size (by simp) ?_;intro v2 w2 ho2 hg2 hv2;have ho2:NdsOwn w2 w.heap.size v2 xs:=ho2;obtain ⟨a2,c2,rfl⟩:=ho2.slice;have hb2:Below w.heap.size w1 w2:=(Below.refl _ _).grown hg2 hb1.size (fun k hk=>by cases hk;exact Nat.le_refl _);have j1:w2.cell? ⟨gg,1,none⟩=some (.slice ab ys.length cb):=(hb2.cell (p:=⟨gg,1,none⟩) gz).trans k1;have jz:=cell_lt j1))
 rw [rounds_succ]
 go_wp2_with (at_builtin;refine hd_src (hb.keep (hb1.trans hb2)) (by omega) rfl (.tmp 31) (.tmp 32) rfl w.heap.size _ _ rfl rfl ho2 (Nat.le_trans hb1.size hb2.size) (by omega) ?_;intro v3 w3 ho3 hg3 hv3)
 rw [rounds_succ]
 go_wp2_with fail
 go_ret
 refine ⟨v3,rfl,ho3,(hb1.trans hb2).grown hg3 (Nat.le_trans hb1.size hb2.size) (fun k hk=>(World.ownsRow.lt ho2 k hk).1)⟩
end Go.Proofs.YtbljmfcifljkaaaGreatDoor
/-
  joinNodes, the nodes of a tree, its mirror image. Own work.
-/
namespace Go.Proofs.YtbljmfcifljkaaaGreatDoor
open Go.RowKit
set_option maxRecDepth 100000
set_option maxHeartbeats 4000000
def NdsR (ns:List Nd) (w:World) (e:Ending) (w':World):Prop:=∃ v',e=.returned v'∧NdsOwn w' w.heap.size v' ns∧Below w.heap.size w w'
theorem joinNodes_any (k:Int) (va vb:Value) (xs ys:List Nd) (w:World) (ha:NdsAt w va xs) (hb:NdsAt w vb ys) (hn:xs.length≤100000) (hm:ys.length≤100000) (hp:1≤xs.length) :
  Calls Tryz.prog 394 #[.int .i64 k,va,vb] w (NdsR (xs ++ ys ++ [⟨k,0,⟨#[]⟩⟩]) w):=by
 obtain ⟨aa,ca,rfl⟩:=ha.slice
 obtain ⟨ab,cb,rfl⟩:=hb.slice
 obtain ⟨W1,hW1⟩:∃ W1,W1=w.alloc (.cells #[.slice aa xs.length ca,.slice ab ys.length cb] 28):=⟨_,rfl⟩
 have hB1:Below w.heap.size w W1:=by rw [hW1];exact alloc_below _ _
 have c0:W1.cell? ⟨w.heap.size,0,none⟩=some (.slice aa xs.length ca):=by rw [hW1];simp
 have c1:W1.cell? ⟨w.heap.size,1,none⟩=some (.slice ab ys.length cb):=by rw [hW1];simp
 have hcc:=concat_any w.heap.size _ _ xs ys W1 c0 c1 (ha.keep hB1) (hb.keep hB1) hn hm hp
 obtain ⟨zs,hzs⟩:∃ zs,zs=xs ++ ys:=⟨_,rfl⟩
 have hzl:zs.length≤200000:=by rw [hzs,List.length_append];omega
 rw [← hzs] at hcc ⊢
 clear hzs c0 c1
 rw [hW1] at hcc
 have HC:=Lib.hid hcc
 clear hcc
 rw [hW1] at hB1
 clear hW1
 go_enter Tryz.func394,Tryz.ntmps394
 go_wp2_with (first
  | (go_at_call 395;refine HC.out.mono ?_;rintro e w2 ⟨v2,rfl,ho2,hb2⟩;obtain ⟨a2,c2,rfl⟩:=ho2.slice)
  | (at_builtin;go_must (refine hd_src (v:=.slice (some ⟨w2.heap.size,0,none⟩) 1 1) (ns:=[⟨k,0,⟨#[]⟩⟩]) (NdsOwn.at (World.ownsRow_lit (base:=w2.heap.size) (size:=3) (e:=144) w2 #[.int .i64 k,.int .i64 0,.string ⟨#[]⟩] 1 (Nat.le_refl _) (by unfold maxLen;omega) rfl)) (by simp) rfl (.tmp 10) (.tmp 13) rfl w.heap.size _ zs rfl rfl (NdsOwn.keep (alloc_below _ _) (ho2.mono hB1.size)) (Nat.le_trans (Nat.le_trans hB1.size hb2.size) (by simp)) (by omega) ?_;intro v7 w7 h7 h8 h9)))
 go_ret
 refine ⟨v7,rfl,h7,?_⟩
 have hb3:=hB1.trans (hb2.mono hB1.size)
 exact (hb3.alloc hb3.size _).grown h8 (Nat.le_trans hb3.size (by simp)) (fun k hk=>(World.ownsRow.lt (ho2.mono hB1.size) k hk).1)
def trP:Tr → Value
 | .leaf n=>.agg #[.int .i64 n.kind,.int .i64 n.value,.string n.name]
 | .seq a b=>.agg #[trV a,trV b]
 | .par a b=>.agg #[trV a,trV b]
def trT:Tr → Nat
 | .leaf _=>351
 | .seq _ _=>348
 | .par _ _=>349
def trF:Tr → Nat
 | .leaf _=>398
 | .seq _ _=>393
 | .par _ _=>397
theorem trV_parts (t:Tr):trV t=.iface (trT t) (trP t):=by cases t <;> rfl
theorem trP_agg (t:Tr):∃ a,trP t=.agg a:=by cases t <;> exact ⟨_,rfl⟩
theorem tr_method (t : Tr) (x : Value) (w : World) : Sem.run Tryz.prog (method 549 (trT t) x "loop.example/g01073/impl.nodes") w = .ok (trF t, x) w := by
 cases t <;> kernel_rfl
theorem tr_enter (t:Tr) (x:Array Value) (w:World):Sem.run Tryz.prog (callFunc (trF t) x) w=.ok (.enter (trF t) x) w:=by
 cases t <;> kernel_rfl
theorem nodes_leaf (n:Nd) (w:World):Calls Tryz.prog 398 #[trP (.leaf n)] w (NdsR [n] w):=by
 rw [trP]
 go_enter Tryz.func398,Tryz.ntmps398
 go_wp2
 go_ret
 refine ⟨_,rfl,?_,((Below.refl _ _).alloc (Nat.le_refl _) _).alloc (by simp) _⟩
 have:=World.ownsRow_lit (base:=w.heap.size) (size:=3) (e:=144) (w.alloc (.cells #[.int .i64 n.kind,.int .i64 n.value,.string n.name] 351)) #[.int .i64 n.kind,.int .i64 n.value,.string n.name] 1 (by simp) (by unfold maxLen;omega) rfl
 simp only [World.size_alloc] at this
 exact this
theorem nodes_seq (a b:Tr) (hl:a.nodes.length+b.nodes.length≤100000) (ha:∀ w,Calls Tryz.prog (trF a) #[trP a] w (NdsR a.nodes w)) (hb:∀ w,Calls Tryz.prog (trF b) #[trP b] w (NdsR b.nodes w)) (w:World) :
  Calls Tryz.prog 393 #[trP (.seq a b)] w (NdsR (Tr.seq a b).nodes w):=by
 rw [trP,trV_parts a,trV_parts b]
 obtain ⟨xa,hxa⟩:=trP_agg a
 obtain ⟨xb,hxb⟩:=trP_agg b
 have ma:=tr_method a
 have mb:=tr_method b
 have pa:=nodes_pos a
 have ea:=tr_enter a
 have eb:=tr_enter b
 rw [hxa] at ha ⊢
 rw [hxb] at hb ⊢
 rw [Tr.nodes]
 generalize trF a=fa at *
 generalize trF b=fb at *
 generalize trT a=ta at *
 generalize trT b=tb at *
 generalize a.nodes=na at *
 generalize b.nodes=nb at *
 clear hxa hxb a b
 go_enter Tryz.func393,Tryz.ntmps393
 go_wp2_with fail
 refine region_grow (C:=Grew (w.alloc _).drew) 7 (by kernel_rfl) (by kernel_rfl) (by kernel_rfl) (Grew.refl _) ?_
 simp only [List.take_succ_cons,List.take_zero,List.drop_succ_cons,List.drop_zero]
 iterate 2
  refine g_step (fun K hK=>?_)
  refine g_still rfl ?_
  apply Exists.intro
  refine ⟨fun w' hw'=>?_,?_⟩
  ·obtain ⟨hc',hf',_⟩:=bcell hw'
   go_simp
   rfl
  go_simp
  refine hK _ _ ?_
  clear hK K
 refine g_step (fun K hK=>?_);refine g_call rfl rfl fa ?_;apply Exists.intro;refine ⟨fun w' hw'=>?_,?_⟩;(focus go_simp;rfl);refine (ha _).mono ?_;rintro e w3 ⟨v3,rfl,ho3,hb3⟩;refine ⟨_,rfl,hb3,?_⟩;go_simp;apply hK;clear hK K
 iterate 2
  refine g_step (fun K hK=>?_)
  refine g_still rfl ?_
  apply Exists.intro
  refine ⟨fun w' hw'=>?_,?_⟩
  ·obtain ⟨hc',hf',_⟩:=bcell hw'
   go_simp
   rfl
  go_simp
  refine hK _ _ ?_
  clear hK K
 refine g_step (fun K hK=>?_);refine g_call rfl rfl fb ?_;apply Exists.intro;refine ⟨fun w' hw'=>?_,?_⟩;(focus go_simp;rfl);refine (hb _).mono ?_;rintro e w4 ⟨v4,rfl,ho4,hb4⟩;refine ⟨_,rfl,hb3.trans (hb4.mono hb3.size),?_⟩;go_simp;apply hK;clear hK K
 refine g_step (fun K hK=>?_);refine g_call rfl rfl 394 ?_;apply Exists.intro;refine ⟨fun w' hw'=>?_,?_⟩;(focus go_simp;rfl);refine (joinNodes_any 15 _ _ na nb w4 (ho3.keep hb4).at ho4.at (by omega) (by omega) pa).mono ?_;rintro e w5 ⟨v5,rfl,ho5,hb5⟩;refine ⟨_,rfl,(hb3.trans (hb4.mono hb3.size)).trans (hb5.mono (Nat.le_trans hb3.size hb4.size)),?_⟩;go_simp;apply hK;clear hK K
 refine g_nil ?_
 go_wp2
 go_ret
 refine ⟨v5,rfl,ho5.mono ?_,?_⟩
 ·have:=hb3.size;have:=hb4.size;simp at *;omega
 ·exact (alloc_below _ _).drew.trans (((hb3.trans (hb4.mono hb3.size)).trans (hb5.mono (Nat.le_trans hb3.size hb4.size))).mono (by simp))
theorem nodes_par (a b:Tr) (hl:a.nodes.length+b.nodes.length≤100000) (ha:∀ w,Calls Tryz.prog (trF a) #[trP a] w (NdsR a.nodes w)) (hb:∀ w,Calls Tryz.prog (trF b) #[trP b] w (NdsR b.nodes w)) (w:World) :
  Calls Tryz.prog 397 #[trP (.par a b)] w (NdsR (Tr.par a b).nodes w):=by
 rw [trP,trV_parts a,trV_parts b]
 obtain ⟨xa,hxa⟩:=trP_agg a
 obtain ⟨xb,hxb⟩:=trP_agg b
 have ma:=tr_method a
 have mb:=tr_method b
 have pa:=nodes_pos a
 have ea:=tr_enter a
 have eb:=tr_enter b
 rw [hxa] at ha ⊢
 rw [hxb] at hb ⊢
 rw [Tr.nodes]
 generalize trF a=fa at *
 generalize trF b=fb at *
 generalize trT a=ta at *
 generalize trT b=tb at *
 generalize a.nodes=na at *
 generalize b.nodes=nb at *
 clear hxa hxb a b
 go_enter Tryz.func397,Tryz.ntmps397
 go_wp2_with fail
 refine region_grow (C:=Grew (w.alloc _).drew) 7 (by kernel_rfl) (by kernel_rfl) (by kernel_rfl) (Grew.refl _) ?_
 simp only [List.take_succ_cons,List.take_zero,List.drop_succ_cons,List.drop_zero]
 iterate 2
  refine g_step (fun K hK=>?_)
  refine g_still rfl ?_
  apply Exists.intro
  refine ⟨fun w' hw'=>?_,?_⟩
  ·obtain ⟨hc',hf',_⟩:=bcell hw'
   go_simp
   rfl
  go_simp
  refine hK _ _ ?_
  clear hK K
 refine g_step (fun K hK=>?_);refine g_call rfl rfl fa ?_;apply Exists.intro;refine ⟨fun w' hw'=>?_,?_⟩;(focus go_simp;rfl);refine (ha _).mono ?_;rintro e w3 ⟨v3,rfl,ho3,hb3⟩;refine ⟨_,rfl,hb3,?_⟩;go_simp;apply hK;clear hK K
 iterate 2
  refine g_step (fun K hK=>?_)
  refine g_still rfl ?_
  apply Exists.intro
  refine ⟨fun w' hw'=>?_,?_⟩
  ·obtain ⟨hc',hf',_⟩:=bcell hw'
   go_simp
   rfl
  go_simp
  refine hK _ _ ?_
  clear hK K
 refine g_step (fun K hK=>?_);refine g_call rfl rfl fb ?_;apply Exists.intro;refine ⟨fun w' hw'=>?_,?_⟩;(focus go_simp;rfl);refine (hb _).mono ?_;rintro e w4 ⟨v4,rfl,ho4,hb4⟩;refine ⟨_,rfl,hb3.trans (hb4.mono hb3.size),?_⟩;go_simp;apply hK;clear hK K
 refine g_step (fun K hK=>?_);refine g_call rfl rfl 394 ?_;apply Exists.intro;refine ⟨fun w' hw'=>?_,?_⟩;(focus go_simp;rfl);refine (joinNodes_any 16 _ _ na nb w4 (ho3.keep hb4).at ho4.at (by omega) (by omega) pa).mono ?_;rintro e w5 ⟨v5,rfl,ho5,hb5⟩;refine ⟨_,rfl,(hb3.trans (hb4.mono hb3.size)).trans (hb5.mono (Nat.le_trans hb3.size hb4.size)),?_⟩;go_simp;apply hK;clear hK K
 refine g_nil ?_
 go_wp2
 go_ret
 refine ⟨v5,rfl,ho5.mono ?_,?_⟩
 ·have:=hb3.size;have:=hb4.size;simp at *;omega
 ·exact (alloc_below _ _).drew.trans (((hb3.trans (hb4.mono hb3.size)).trans (hb5.mono (Nat.le_trans hb3.size hb4.size))).mono (by simp))
theorem nodes_any:∀ (t:Tr),t.nodes.length≤100000 → ∀ w,Calls Tryz.prog (trF t) #[trP t] w (NdsR t.nodes w)
 | .leaf n,_,w=>nodes_leaf n w
 | .seq a b,h,w=>by
  rw [Tr.nodes,List.length_append,List.length_append] at h
  exact nodes_seq a b (by omega) (nodes_any a (by omega)) (nodes_any b (by omega)) w
 | .par a b,h,w=>by
  rw [Tr.nodes,List.length_append,List.length_append] at h
  exact nodes_par a b (by omega) (nodes_any a (by omega)) (nodes_any b (by omega)) w
theorem mirrorKind_any (k:Int) (w:World):Calls Tryz.prog 289 #[.int .i64 k] w fun e w'=>e=.returned (.int .i64 (mirK k))∧w=w':=by
 by_cases h1:3≤k∧k≤8
 ·have g1:inB k 3 8=true:=by simp [inB];omega
  have e1:IntKind.i64.wrap (k+9)=k+9:=IntWalk.i64_in _ (by omega)
  have e2:IntKind.i64.wrap (k+9 - 3)=k+9 - 3:=IntWalk.i64_in _ (by omega)
  have HR:=Lib.hid (show mirK k=k+9 - 3 by unfold mirK;rw [if_pos h1];omega)
  clear h1
  go_enter Tryz.func289,Tryz.ntmps289
  go_wp2_with (go_at_call 128;refine (within_any _ _ _ _).mono ?_;rintro e w1 ⟨rfl,rfl⟩)
  go_ret
  exact ⟨by rw [HR.out];rfl,rfl⟩
 ·by_cases h2:9≤k∧k≤14
  ·have g1:inB k 3 8=false:=by simp [inB];omega
   have g2:inB k 9 14=true:=by simp [inB];omega
   have e1:IntKind.i64.wrap (k - 9)=k - 9:=IntWalk.i64_in _ (by omega)
   have e2:IntKind.i64.wrap (k - 9+3)=k - 9+3:=IntWalk.i64_in _ (by omega)
   have HR:=Lib.hid (show mirK k=k - 9+3 by unfold mirK;rw [if_neg h1,if_pos h2];omega)
   clear h1 h2
   go_enter Tryz.func289,Tryz.ntmps289
   go_wp2_with (go_at_call 128;refine (within_any _ _ _ _).mono ?_;rintro e w1 ⟨rfl,rfl⟩)
   go_ret
   exact ⟨by rw [HR.out];rfl,rfl⟩
  ·have g1:inB k 3 8=false:=by simp [inB];omega
   have g2:inB k 9 14=false:=by simp [inB];omega
   have HR:=Lib.hid (show mirK k=k by unfold mirK;rw [if_neg h1,if_neg h2])
   clear h1 h2
   go_enter Tryz.func289,Tryz.ntmps289
   go_wp2_with (go_at_call 128;refine (within_any _ _ _ _).mono ?_;rintro e w1 ⟨rfl,rfl⟩)
   go_ret
   exact ⟨by rw [HR.out];rfl,rfl⟩
theorem mirrored_leaf (n:Nd) (w:World):Calls Tryz.prog 229 #[trV (.leaf n)] w fun e w'=>e=.returned (trV (Tr.leaf n).mir)∧Below w.heap.size w w':=by
 have h1:=ta_leaf_seq
 have h2:=ta_leaf_par
 have h3:=ta_leaf_leaf
 rw [Tr.mir,trV,trV]
 go_enter Tryz.func229,Tryz.ntmps229
 go_wp2_with (go_at_call 289;refine (mirrorKind_any _ _).mono ?_;rintro e w1 ⟨rfl,hw1⟩;obtain rfl:=hw1)
 go_ret
 exact ⟨rfl,alloc_below _ _⟩
theorem mirrored_seq (a b:Tr) (ha:∀ w,Calls Tryz.prog 229 #[trV a] w fun e w'=>e=.returned (trV a.mir)∧Below w.heap.size w w') (hb:∀ w,Calls Tryz.prog 229 #[trV b] w fun e w'=>e=.returned (trV b.mir)∧Below w.heap.size w w') (w:World) :
  Calls Tryz.prog 229 #[trV (.seq a b)] w fun e w'=>e=.returned (trV (Tr.seq a b).mir)∧Below w.heap.size w w':=by
 have h2:=ta_seq_seq
 rw [Tr.mir,trV,trV]
 obtain ⟨Ta,xa,hxa⟩:=trV_iface a
 obtain ⟨Tb,xb,hxb⟩:=trV_iface b
 rw [hxa] at ha ⊢
 rw [hxb] at hb ⊢
 obtain ⟨Tc,xc,hxc⟩:=trV_iface a.mir
 obtain ⟨Td,xd,hxd⟩:=trV_iface b.mir
 rw [hxc] at ha ⊢
 rw [hxd] at hb ⊢
 clear hxa hxb hxc hxd a b
 go_enter Tryz.func229,Tryz.ntmps229
 go_wp2_with fail
 refine region_grow (C:=Grew (w.alloc _).drew) 8 (by kernel_rfl) (by kernel_rfl) (by kernel_rfl) (Grew.refl _) ?_
 simp only [List.take_succ_cons,List.take_zero,List.drop_succ_cons,List.drop_zero]
 iterate 2
  refine g_step (fun K hK=>?_)
  refine g_still rfl ?_
  apply Exists.intro
  refine ⟨fun w' hw'=>?_,?_⟩
  ·obtain ⟨hc',hf',_⟩:=bcell hw'
   go_simp
   rfl
  go_simp
  refine hK _ _ ?_
  clear hK K
 refine g_step (fun K hK=>?_);refine g_call rfl rfl 229 ?_;apply Exists.intro;refine ⟨fun w' hw'=>?_,?_⟩;(focus go_simp;rfl);refine (hb _).mono ?_;rintro e w3 ⟨rfl,hb3⟩;refine ⟨_,rfl,hb3,?_⟩;go_simp;apply hK;clear hK K
 iterate 2
  refine g_step (fun K hK=>?_)
  refine g_still rfl ?_
  apply Exists.intro
  refine ⟨fun w' hw'=>?_,?_⟩
  ·obtain ⟨hc',hf',_⟩:=bcell hw'
   go_simp
   rfl
  go_simp
  refine hK _ _ ?_
  clear hK K
 refine g_step (fun K hK=>?_);refine g_call rfl rfl 229 ?_;apply Exists.intro;refine ⟨fun w' hw'=>?_,?_⟩;(focus go_simp;rfl);refine (ha _).mono ?_;rintro e w4 ⟨rfl,hb4⟩;refine ⟨_,rfl,hb3.trans (hb4.mono hb3.size),?_⟩;go_simp;apply hK;clear hK K
 iterate 2
  refine g_step (fun K hK=>?_)
  refine g_still rfl ?_
  apply Exists.intro
  refine ⟨fun w' hw'=>?_,?_⟩
  ·obtain ⟨hc',hf',_⟩:=bcell hw'
   go_simp
   rfl
  go_simp
  refine hK _ _ ?_
  clear hK K
 refine g_nil ?_
 go_wp2
 go_ret
 exact ⟨rfl,(alloc_below _ _).drew.trans ((hb3.trans (hb4.mono hb3.size)).mono (by simp))⟩
theorem mirrored_par (a b:Tr) (ha:∀ w,Calls Tryz.prog 229 #[trV a] w fun e w'=>e=.returned (trV a.mir)∧Below w.heap.size w w') (hb:∀ w,Calls Tryz.prog 229 #[trV b] w fun e w'=>e=.returned (trV b.mir)∧Below w.heap.size w w') (w:World) :
  Calls Tryz.prog 229 #[trV (.par a b)] w fun e w'=>e=.returned (trV (Tr.par a b).mir)∧Below w.heap.size w w':=by
 have h2:=ta_par_par
 have h3:=ta_par_seq
 rw [Tr.mir,trV,trV]
 obtain ⟨Ta,xa,hxa⟩:=trV_iface a
 obtain ⟨Tb,xb,hxb⟩:=trV_iface b
 rw [hxa] at ha ⊢
 rw [hxb] at hb ⊢
 obtain ⟨Tc,xc,hxc⟩:=trV_iface a.mir
 obtain ⟨Td,xd,hxd⟩:=trV_iface b.mir
 rw [hxc] at ha ⊢
 rw [hxd] at hb ⊢
 clear hxa hxb hxc hxd a b
 go_enter Tryz.func229,Tryz.ntmps229
 go_wp2_with fail
 refine region_grow (C:=Grew (w.alloc _).drew) 8 (by kernel_rfl) (by kernel_rfl) (by kernel_rfl) (Grew.refl _) ?_
 simp only [List.take_succ_cons,List.take_zero,List.drop_succ_cons,List.drop_zero]
 iterate 2
  refine g_step (fun K hK=>?_)
  refine g_still rfl ?_
  apply Exists.intro
  refine ⟨fun w' hw'=>?_,?_⟩
  ·obtain ⟨hc',hf',_⟩:=bcell hw'
   go_simp
   rfl
  go_simp
  refine hK _ _ ?_
  clear hK K
 refine g_step (fun K hK=>?_);refine g_call rfl rfl 229 ?_;apply Exists.intro;refine ⟨fun w' hw'=>?_,?_⟩;(focus go_simp;rfl);refine (ha _).mono ?_;rintro e w3 ⟨rfl,hb3⟩;refine ⟨_,rfl,hb3,?_⟩;go_simp;apply hK;clear hK K
 iterate 2
  refine g_step (fun K hK=>?_)
  refine g_still rfl ?_
  apply Exists.intro
  refine ⟨fun w' hw'=>?_,?_⟩
  ·obtain ⟨hc',hf',_⟩:=bcell hw'
   go_simp
   rfl
  go_simp
  refine hK _ _ ?_
  clear hK K
 refine g_step (fun K hK=>?_);refine g_call rfl rfl 229 ?_;apply Exists.intro;refine ⟨fun w' hw'=>?_,?_⟩;(focus go_simp;rfl);refine (hb _).mono ?_;rintro e w4 ⟨rfl,hb4⟩;refine ⟨_,rfl,hb3.trans (hb4.mono hb3.size),?_⟩;go_simp;apply hK;clear hK K
 iterate 2
  refine g_step (fun K hK=>?_)
  refine g_still rfl ?_
  apply Exists.intro
  refine ⟨fun w' hw'=>?_,?_⟩
  ·obtain ⟨hc',hf',_⟩:=bcell hw'
   go_simp
   rfl
  go_simp
  refine hK _ _ ?_
  clear hK K
 refine g_nil ?_
 go_wp2
 go_ret
 exact ⟨rfl,(alloc_below _ _).drew.trans ((hb3.trans (hb4.mono hb3.size)).mono (by simp))⟩
theorem mirrored_any:∀ (t:Tr) (w:World),Calls Tryz.prog 229 #[trV t] w fun e w'=>e=.returned (trV t.mir)∧Below w.heap.size w w'
 | .leaf n,w=>mirrored_leaf n w
 | .seq a b,w=>mirrored_seq a b (mirrored_any a) (mirrored_any b) w
 | .par a b,w=>mirrored_par a b (mirrored_any a) (mirrored_any b) w
end Go.Proofs.YtbljmfcifljkaaaGreatDoor
/-
  MirrorTerm, a rule's mirror image, at the axioms' trees. Own work.
-/
namespace Go.Proofs.YtbljmfcifljkaaaGreatDoor
open Go.RowKit
set_option maxRecDepth 100000
set_option maxHeartbeats 4000000
theorem names_ty:∀ (t:Tr) (x:W2),t.ty (leafIn [])=some x → ∀ d ∈ t.nodes,d.name.size≤1048576
 | .leaf n,x,h,d,hd=>by
  rw [Tr.nodes] at hd
  simp at hd
  subst hd
  simp only [Tr.ty,leafIn] at h
  split at h
  ·simp [findD] at h
  ·split at h
   ·rename_i hb
    unfold leafB at hb
    simp only [Bool.and_eq_true,decide_eq_true_eq] at hb
    have:d.name=ByteArray.empty:=by simp_all
    rw [this];decide
   ·cases h
 | .seq a b,x,h,d,hd=>by
  simp only [Tr.ty] at h
  split at h
  ·rename_i p q h1 h2
   rw [Tr.nodes] at hd
   simp only [List.mem_append,List.mem_singleton] at hd
   rcases hd with (hd|hd)|rfl
   ·exact names_ty a p h1 d hd
   ·exact names_ty b q h2 d hd
   ·decide
  ·cases h
 | .par a b,x,h,d,hd=>by
  simp only [Tr.ty] at h
  split at h
  ·rename_i p q h1 h2
   rw [Tr.nodes] at hd
   simp only [List.mem_append,List.mem_singleton] at hd
   rcases hd with (hd|hd)|rfl
   ·exact names_ty a p h1 d hd
   ·exact names_ty b q h2 d hd
   ·decide
  ·cases h
theorem mir_len:∀ t:Tr,t.mir.nodes.length=t.nodes.length
 | .leaf n=>rfl
 | .seq a b=>by rw [Tr.mir,Tr.nodes,Tr.nodes,List.length_append,List.length_append,List.length_append,List.length_append,mir_len a,mir_len b];simp;omega
 | .par a b=>by rw [Tr.mir,Tr.nodes,Tr.nodes,List.length_append,List.length_append,List.length_append,List.length_append,mir_len a,mir_len b]
theorem nds_low' {w:World} {B a j:Nat} {v u:Value} {ns:List Nd} (h:NdsOwn w B v ns) (ha:a<B):NdsOwn (w.setCell ⟨a,j,none⟩ u) B v ns:=NdsOwn.setLow h ha _
theorem uniq_nil:Uniq []:=by unfold Uniq;simp
theorem mirrorTerm_any (v:Value) (t:Tr) (w:World) (hv:NdsAt w v t.nodes) (ht:AxTr t) :
  Calls Tryz.prog 167 #[.agg #[v]] w fun e w'=>∃ v',e=.returned (.tuple #[.agg #[v'],.bool true])∧NdsOwn w' w.heap.size v' t.mir.nodes∧Below w.heap.size w w':=by
 obtain ⟨x,hx⟩:=ht.ty
 have hnm:=names_ty t x hx
 have hlen:=ht.len
 have hty:typedL (leafT []) t.nodes=some x:=by rw [typedL_uniq uniq_nil];exact typedL_nodes ht.lk hx (by omega)
 have hval:(typedL (leafT []) t.nodes).isSome=true:=by rw [hty];rfl
 have htr:=treeL_nodes ht.lk
 have hml:=mir_len t
 have hnd:=nodes_any t.mir (by omega)
 have hmi:=mirrored_any t
 have hmm:=tr_method t.mir
 have hme:=tr_enter t.mir
 obtain ⟨pm,hpm⟩:=trP_agg t.mir
 rw [trV_parts t.mir,hpm] at hmi
 rw [hpm] at hnd
 generalize trF t.mir=fm at *
 generalize trT t.mir=tm at *
 obtain ⟨Tt,pt,hpt⟩:=trV_iface t
 have hto:=fun (w2:World) (h2:NdsAt w2 v t.nodes)=>treeOf_any v t.nodes t w2 h2 (by omega) htr
 rw [hpt] at hmi hto
 obtain ⟨aa,ca,rfl⟩:=hv.slice
 have HT:=Lib.hid hto
 have HN:=Lib.hid hnd
 have HM:=Lib.hid hmi
 have HI:=Lib.hid (fun (w2:World) (h2:NdsAt w2 (.slice aa t.nodes.length ca) t.nodes)=>isValidT_any _ t.nodes w2 h2 (by omega) hnm)
 clear hto hnd hmi hx hnm hty htr hml hpm hpt ht
 have hB0:Below w.heap.size w ((w.alloc (.cells #[.slice aa t.nodes.length ca] 30)).alloc (.cells #[.slice none 0 0] 30)):=((Below.refl _ _).alloc (Nat.le_refl _) _).alloc (by simp) _
 go_enter Tryz.func167,Tryz.ntmps167
 go_wp2_with fail
 refine (HI.out _ (hv.keep hB0)).mono ?_
 rintro e w1 ⟨rfl,hb1⟩
 rw [hval]
 have q0:=hb1.cell (p:=⟨w.heap.size,0,none⟩) (by simp;omega)
 have q1:=hb1.cell (p:=⟨w.heap.size+1,0,none⟩) (by simp)
 have q2:=hb1.frozen (p:=⟨w.heap.size+1,0,none⟩) (by simp)
 simp [go_sem] at q0 q1 q2
 have hs1:=hb1.size
 simp only [World.size_alloc] at hs1
 have z1:w.heap.size+1<w1.heap.size:=by omega
 have z0:w.heap.size<w1.heap.size:=by omega
 have hb01:=hB0.trans (hb1.mono (by simp;omega))
 clear hval
 go_wp2_with fail
 refine (HT.out _ (hv.keep hb01)).mono ?_
 rintro e w2 ⟨rfl,hb2⟩
 go_wp2_with fail
 refine (HM.out _).mono ?_
 rintro e w3 ⟨rfl,hb3⟩
 go_wp2_with fail
 refine (HN.out _).mono ?_
 rintro e w4 ⟨v4,rfl,ho4,hb4⟩
 have hb14:=(hb2.trans (hb3.mono hb2.size)).trans (hb4.mono (Nat.le_trans hb2.size hb3.size))
 have r1:=cell_keep hb14 q1
 have r2:=(hb14.frozen (p:=⟨w.heap.size+1,0,none⟩) z1).trans q2
 have z4:=cell_lt r1
 obtain ⟨a4,c4,rfl⟩:=ho4.slice
 go_wp2
 have r3:(w4.setCell ⟨w.heap.size+1,0,none⟩ (.slice a4 t.mir.nodes.length c4)).cell? ⟨w.heap.size+1,0,none⟩=some (.slice a4 t.mir.nodes.length c4):=World.cell?_setCell_same _ _ _ r1
 refine bodyPost_ret (v:=.tuple #[.agg #[.slice a4 t.mir.nodes.length c4],.bool true]) (by simp [results,Tryz.results167,go_sem,r3]) rfl ⟨_,rfl,?_,(hb01.trans (hb14.mono (by omega))).setCell (by simp) _⟩
 have h3:=hb2.size
 have h4:=hb3.size
 exact NdsOwn.mono (by omega) (nds_low' ho4 (by omega))
end Go.Proofs.YtbljmfcifljkaaaGreatDoor
/-
  A rule's mirror image, its name with an m ahead. Own work.
-/
namespace Go.Proofs.YtbljmfcifljkaaaGreatDoor
open Go.RowKit
set_option maxRecDepth 100000
set_option maxHeartbeats 4000000
def RulOwn (w:World) (B:Nat) (vl vr:Value) (l r:List Nd):Prop:=NdsOwn w B vl l∧NdsOwn w B vr r∧Apart vl vr
theorem mirroredR_any (nm:ByteArray) (vl vr:Value) (l r:Tr) (w:World) (hl:NdsAt w vl l.nodes) (hr:NdsAt w vr r.nodes) (tl:AxTr l) (tr:AxTr r) :
  Calls Tryz.prog 98 #[.agg #[.string nm,vl,vr]] w fun e w'=>∃ vl' vr',e=.returned (.agg #[.string nm,vl',vr'])∧RulOwn w' w.heap.size vl' vr' l.mir.nodes r.mir.nodes∧Below w.heap.size w w':=by
 have h1:=fun (w2:World) (h2:NdsAt w2 vl l.nodes)=>mirrorTerm_any vl l w2 h2 tl
 have h2:=fun (w2:World) (h2:NdsAt w2 vr r.nodes)=>mirrorTerm_any vr r w2 h2 tr
 generalize l.mir.nodes=lm at *
 generalize r.mir.nodes=rm at *
 generalize l.nodes=ln at *
 generalize r.nodes=rn at *
 have H1:=Lib.hid h1
 have H2:=Lib.hid h2
 obtain ⟨al,cl,rfl⟩:=hl.slice
 obtain ⟨ar,cr,rfl⟩:=hr.slice
 clear h1 h2 tl tr l r
 have hB0:Below w.heap.size w ((w.alloc (.cells #[.string nm,.slice al ln.length cl,.slice ar rn.length cr] 32)).alloc (.cells #[.string ⟨#[]⟩,.slice none 0 0,.slice none 0 0] 32)):=((Below.refl _ _).alloc (Nat.le_refl _) _).alloc (by simp) _
 go_enter Tryz.func98,Tryz.ntmps98
 go_wp2_with fail
 refine (H1.out _ (hl.keep hB0)).mono ?_
 rintro e w1 ⟨v1,rfl,ho1,hb1⟩
 have hs1:=hb1.size
 simp only [World.size_alloc] at hs1
 have q0:w1.cell? ⟨w.heap.size,0,none⟩=some (.string nm):=(hb1.cell (p:=⟨w.heap.size,0,none⟩) (by simp;omega)).trans (by simp [go_sem])
 have q1:w1.cell? ⟨w.heap.size,1,none⟩=some (.slice al ln.length cl):=(hb1.cell (p:=⟨w.heap.size,1,none⟩) (by simp;omega)).trans (by simp [go_sem])
 have q2:w1.cell? ⟨w.heap.size,2,none⟩=some (.slice ar rn.length cr):=(hb1.cell (p:=⟨w.heap.size,2,none⟩) (by simp;omega)).trans (by simp [go_sem])
 have p0:w1.cell? ⟨w.heap.size+1,0,none⟩=some (.string ⟨#[]⟩):=(hb1.cell (p:=⟨w.heap.size+1,0,none⟩) (by simp)).trans (by simp [go_sem])
 have p1:w1.cell? ⟨w.heap.size+1,1,none⟩=some (.slice none 0 0):=(hb1.cell (p:=⟨w.heap.size+1,1,none⟩) (by simp)).trans (by simp [go_sem])
 have p2:w1.cell? ⟨w.heap.size+1,2,none⟩=some (.slice none 0 0):=(hb1.cell (p:=⟨w.heap.size+1,2,none⟩) (by simp)).trans (by simp [go_sem])
 have pf:∀ j,w1.frozen? ⟨w.heap.size+1,j,none⟩=false:=fun j=>(hb1.frozen (p:=⟨w.heap.size+1,j,none⟩) (by simp)).trans (by simp [go_sem])
 have z1:w.heap.size+1<w1.heap.size:=by omega
 have z0:w.heap.size<w1.heap.size:=by omega
 have hb01:=hB0.trans (hb1.mono (by simp;omega))
 obtain ⟨a1,c1,rfl⟩:=ho1.slice
 go_wp2_with fail
 refine (H2.out _ (hr.keep (hb01.alloc (by omega) _))).mono ?_
 rintro e w2 ⟨v2,rfl,ho2,hb2⟩
 have hs2:=hb2.size
 simp only [World.size_alloc] at hs2
 obtain ⟨a2,c2,rfl⟩:=ho2.slice
 have hk:∀ {b j:Nat} {u:Value},w1.cell? ⟨b,j,none⟩=some u → w2.cell? ⟨b,j,none⟩=some u:=fun h=>cell_keep hb2 (alloc_keep h _)
 have r0:=hk q0
 have r1:=hk p0
 have r2:=hk p1
 have r3:=hk p2
 have rf:∀ j,w2.frozen? ⟨w.heap.size+1,j,none⟩=false:=fun j=>(hb2.frozen (p:=⟨w.heap.size+1,j,none⟩) (by simp;omega)).trans ((Below.frozen (alloc_below w1 (.cells #[.slice a1 lm.length c1] 30)) (p:=⟨w.heap.size+1,j,none⟩) (by simp;omega)).trans (pf j))
 have s0:w2.cell? ⟨w1.heap.size,0,none⟩=some (.slice a1 lm.length c1):=cell_keep hb2 (by simp [go_sem])
 have z2:w1.heap.size<w2.heap.size:=by omega
 have z3:w.heap.size+1<w2.heap.size:=by omega
 have z4:w.heap.size<w2.heap.size:=by omega
 clear hk q0 q1 q2 p0 p1 p2
 go_wp2
 have zz:w.heap.size+1<w2.heap.size:=z3
 have e0:((((w2.setCell ⟨w.heap.size+1,0,none⟩ (.string nm)).setCell ⟨w.heap.size+1,1,none⟩ (.slice a1 lm.length c1)).setCell ⟨w.heap.size+1,2,none⟩ (.slice a2 rm.length c2)).alloc (.cells #[.slice a2 rm.length c2] 30)).cell? ⟨w.heap.size+1,0,none⟩=some (.string nm):=by go_simp
 have e1:((((w2.setCell ⟨w.heap.size+1,0,none⟩ (.string nm)).setCell ⟨w.heap.size+1,1,none⟩ (.slice a1 lm.length c1)).setCell ⟨w.heap.size+1,2,none⟩ (.slice a2 rm.length c2)).alloc (.cells #[.slice a2 rm.length c2] 30)).cell? ⟨w.heap.size+1,1,none⟩=some (.slice a1 lm.length c1):=by go_simp
 have e2:((((w2.setCell ⟨w.heap.size+1,0,none⟩ (.string nm)).setCell ⟨w.heap.size+1,1,none⟩ (.slice a1 lm.length c1)).setCell ⟨w.heap.size+1,2,none⟩ (.slice a2 rm.length c2)).alloc (.cells #[.slice a2 rm.length c2] 30)).cell? ⟨w.heap.size+1,2,none⟩=some (.slice a2 rm.length c2):=by go_simp
 have hb02:=hb01.trans (hb2.mono (by simp;omega) |> fun h=>((Below.refl w.heap.size w1).alloc (by omega) _).trans h)
 refine bodyPost_ret (v:=.agg #[.string nm,.slice a1 lm.length c1,.slice a2 rm.length c2]) (by simp [results,Tryz.results98,go_sem,e0,e1,e2]) rfl ⟨_,_,rfl,⟨?_,?_,?_⟩,?_⟩
 ·have h1:=NdsOwn.keep hb2 (NdsOwn.keep (alloc_below w1 (.cells #[.slice a1 lm.length c1] 30)) ho1)
  simp only [World.size_alloc] at h1
  exact NdsOwn.mono (B:=w.heap.size+1+1) (by omega) (NdsOwn.keep (alloc_below _ _) (nds_low' (nds_low' (nds_low' h1 (by omega)) (by omega)) (by omega)))
 ·simp only [World.size_alloc] at ho2
  exact NdsOwn.mono (B:=w1.heap.size+1) (by omega) (NdsOwn.keep (alloc_below _ _) (nds_low' (nds_low' (nds_low' ho2 (by omega)) (by omega)) (by omega)))
 ·exact apart_later ho1 ho2 (by simp)
 ·have h9:=((hb02.setCell (p:=⟨w.heap.size+1,0,none⟩) (by simp) (.string nm)).setCell (p:=⟨w.heap.size+1,1,none⟩) (by simp) (.slice a1 lm.length c1)).setCell (p:=⟨w.heap.size+1,2,none⟩) (by simp) (.slice a2 rm.length c2)
  exact h9.alloc h9.size _
theorem mirAx_any (nm:ByteArray) (vl vr:Value) (l r:Tr) (w:World) (hl:NdsAt w vl l.nodes) (hr:NdsAt w vr r.nodes) (tl:AxTr l) (tr:AxTr r) (hn:nm.size≤1000) :
  Calls Tryz.prog 97 #[.agg #[.string nm,vl,vr]] w fun e w'=>∃ vl' vr',e=.returned (.agg #[.string (bM ++ nm),vl',vr'])∧RulOwn w' w.heap.size vl' vr' l.mir.nodes r.mir.nodes∧Below w.heap.size w w':=by
 have h1:=fun (w2:World) (h2:NdsAt w2 vl l.nodes) (h3:NdsAt w2 vr r.nodes)=>mirroredR_any nm vl vr l r w2 h2 h3 tl tr
 generalize l.mir.nodes=lm at *
 generalize r.mir.nodes=rm at *
 generalize l.nodes=ln at *
 generalize r.nodes=rn at *
 have H1:=Lib.hid h1
 obtain ⟨al,cl,rfl⟩:=hl.slice
 obtain ⟨ar,cr,rfl⟩:=hr.slice
 clear h1 tl tr l r
 have n1:¬ 9223372036854775807<1+nm.size:=by omega
 have hB0:Below w.heap.size w ((w.alloc (.cells #[.string nm,.slice al ln.length cl,.slice ar rn.length cr] 32)).alloc (.cells #[.string ⟨#[]⟩,.slice none 0 0,.slice none 0 0] 32)):=((Below.refl _ _).alloc (Nat.le_refl _) _).alloc (by simp) _
 go_enter Tryz.func97,Tryz.ntmps97
 go_wp2_with fail
 refine (H1.out _ (hl.keep hB0) (hr.keep hB0)).mono ?_
 rintro e w1 ⟨v1,v2,rfl,⟨ho1,ho2,hap⟩,hb1⟩
 have hs1:=hb1.size
 simp only [World.size_alloc] at hs1
 have q0:w1.cell? ⟨w.heap.size,0,none⟩=some (.string nm):=(hb1.cell (p:=⟨w.heap.size,0,none⟩) (by simp;omega)).trans (by simp [go_sem])
 have p0:w1.cell? ⟨w.heap.size+1,0,none⟩=some (.string ⟨#[]⟩):=(hb1.cell (p:=⟨w.heap.size+1,0,none⟩) (by simp)).trans (by simp [go_sem])
 have p1:w1.cell? ⟨w.heap.size+1,1,none⟩=some (.slice none 0 0):=(hb1.cell (p:=⟨w.heap.size+1,1,none⟩) (by simp)).trans (by simp [go_sem])
 have p2:w1.cell? ⟨w.heap.size+1,2,none⟩=some (.slice none 0 0):=(hb1.cell (p:=⟨w.heap.size+1,2,none⟩) (by simp)).trans (by simp [go_sem])
 have pf:∀ j,w1.frozen? ⟨w.heap.size+1,j,none⟩=false:=fun j=>(hb1.frozen (p:=⟨w.heap.size+1,j,none⟩) (by simp)).trans (by simp [go_sem])
 have z1:w.heap.size+1<w1.heap.size:=by omega
 have z0:w.heap.size<w1.heap.size:=by omega
 have hb01:=hB0.trans (hb1.mono (by simp;omega))
 obtain ⟨a1,c1,rfl⟩:=ho1.slice
 obtain ⟨a2,c2,rfl⟩:=ho2.slice
 go_wp2
 have e0:((((w1.setCell ⟨w.heap.size+1,0,none⟩ (.string ((⟨#[109]⟩:ByteArray) ++ nm))).setCell ⟨w.heap.size+1,1,none⟩ (.slice a1 lm.length c1)).setCell ⟨w.heap.size+1,2,none⟩ (.slice a2 rm.length c2)).alloc (.cells #[.string ((⟨#[109]⟩:ByteArray) ++ nm),.slice a1 lm.length c1,.slice a2 rm.length c2] 32)).cell? ⟨w.heap.size+1,0,none⟩=some (.string ((⟨#[109]⟩:ByteArray) ++ nm)):=by go_simp
 have e1:((((w1.setCell ⟨w.heap.size+1,0,none⟩ (.string ((⟨#[109]⟩:ByteArray) ++ nm))).setCell ⟨w.heap.size+1,1,none⟩ (.slice a1 lm.length c1)).setCell ⟨w.heap.size+1,2,none⟩ (.slice a2 rm.length c2)).alloc (.cells #[.string ((⟨#[109]⟩:ByteArray) ++ nm),.slice a1 lm.length c1,.slice a2 rm.length c2] 32)).cell? ⟨w.heap.size+1,1,none⟩=some (.slice a1 lm.length c1):=by go_simp
 have e2:((((w1.setCell ⟨w.heap.size+1,0,none⟩ (.string ((⟨#[109]⟩:ByteArray) ++ nm))).setCell ⟨w.heap.size+1,1,none⟩ (.slice a1 lm.length c1)).setCell ⟨w.heap.size+1,2,none⟩ (.slice a2 rm.length c2)).alloc (.cells #[.string ((⟨#[109]⟩:ByteArray) ++ nm),.slice a1 lm.length c1,.slice a2 rm.length c2] 32)).cell? ⟨w.heap.size+1,2,none⟩=some (.slice a2 rm.length c2):=by go_simp
 refine bodyPost_ret (v:=.agg #[.string ((⟨#[109]⟩:ByteArray) ++ nm),.slice a1 lm.length c1,.slice a2 rm.length c2]) (by simp [results,Tryz.results97,go_sem,e0,e1,e2]) rfl ⟨_,_,rfl,⟨?_,?_,?_⟩,?_⟩
 ·simp only [World.size_alloc] at ho1
  exact NdsOwn.mono (B:=w.heap.size+1+1) (by omega) (NdsOwn.keep (alloc_below _ _) (nds_low' (nds_low' (nds_low' ho1 (by omega)) (by omega)) (by omega)))
 ·simp only [World.size_alloc] at ho2
  exact NdsOwn.mono (B:=w.heap.size+1+1) (by omega) (NdsOwn.keep (alloc_below _ _) (nds_low' (nds_low' (nds_low' ho2 (by omega)) (by omega)) (by omega)))
 ·exact hap
 ·have h9:=((hb01.setCell (p:=⟨w.heap.size+1,0,none⟩) (by simp) (.string ((⟨#[109]⟩:ByteArray) ++ nm))).setCell (p:=⟨w.heap.size+1,1,none⟩) (by simp) (.slice a1 lm.length c1)).setCell (p:=⟨w.heap.size+1,2,none⟩) (by simp) (.slice a2 rm.length c2)
  exact h9.alloc h9.size _
end Go.Proofs.YtbljmfcifljkaaaGreatDoor
