/-
  typed at leafWires: wires, isValid. Own work; printed by wip/parTy.py.
-/
import Derived.Test.YtbljmfcifljkaaaGreatDoorYE
import Derived.Test.YtbljmfcifljkaaaGreatDoorYG
import Derived.Test.YtbljmfcifljkaaaGreatDoorYC
import Derived.Lib.AppendZeros
import Derived.Lib.AppendZerosOnto
import Derived.Test.YtbljmfcifljkaaaGreatDoorYAX
import Derived.Test.YtbljmfcifljkaaaGreatDoorYT
import Derived.Test.YtbljmfcifljkaaaGreatDoorYW
import Derived.Test.YtbljmfcifljkaaaGreatDoorYF
import Derived.Test.YtbljmfcifljkaaaGreatDoorYRU
set_option linter.all false
set_option maxRecDepth 100000
set_option maxHeartbeats 8000000
namespace Go.Proofs.YtbljmfcifljkaaaGreatDoor
open Go.RowKit
theorem typRes_nil (n:Nd):typRes [] n=leafRes n:=by
 unfold typRes
 by_cases h:n.kind=17
 ·rw [if_pos h]
  unfold leafRes
  by_cases he:n.name=ByteArray.empty
  ·rw [if_neg (by simp [he]),if_neg (by omega),if_neg (by omega),if_neg (by omega)];rfl
  ·rw [if_pos he];rfl
 ·rw [if_neg h]
theorem typedLf_any (v:Value) (ns:List Nd) (L:List Df) (hLe:L=[]) (w:World) (hv:NdsAt w v ns) (hn:ns.length≤1048576) (hs:∀ d ∈ ns,d.name.size≤1048576) :
  Calls Tryz.prog 183 #[v,.func (.func 184) #[] #[]] w (TypedPost L ns w):=by
 have hsm:∀ d ∈ L,Sm (d.inn,d.out):=by subst hLe;simp
 have hty:∀ n,typRes L n=leafRes n:=by subst hLe;exact typRes_nil
 have HTY:=Lib.hid hty
 clear hLe hty
 obtain ⟨a,cap,rfl,hc,hat⟩:=hv
 by_cases hl:1≤ns.length∧ns.length≤400
 ·have g1:inB ns.length 1 400=true:=by simp [inB];omega
  go_enter Tryz.func183,Tryz.ntmps183
  go_wp2_with (go_at_call 128;refine (within_any _ _ _ _).mono ?_;rintro e w1 ⟨rfl,rfl⟩)
  have hsm':∀ n x,leafT L n=some x → Sm x:=fun n x h=>leafT_sm hsm h
  obtain ⟨i0,hi,hz0,hz1,hz2⟩:=info_parts info147
  go_loopw [6,22] (fun v i wr=>∃ (k:Nat) (st:List W2),k≤ns.length∧i=.int .i64 k∧TypSt L ns w wr v k st) (fun _ i _=>ns.length - (intOf i).toNat)
  case atStart =>
   refine ⟨0,[],Nat.zero_le _,rfl,⟨?_,by simp⟩,(by simp [Hid]:Hid (typedGo (leafT L) ns []=typedGo (leafT L) (ns.drop 0) ([]:List W2).reverse)),(Below.refl _ _).alloc (by simp [resW]) _,Nat.le_refl _,.inl rfl⟩
   have:=World.ownsRow_lit (base:=w.heap.size+1) (size:=2) (e:=169) (resW w) #[] 0 (by simp [resW]) (by unfold maxLen;omega) rfl
   simpa [resW] using this
  case round =>
   obtain ⟨k,st,hk,rfl,hst⟩:=hrel
   obtain ⟨r0,r1,rf0,rf1,hsz,hbel⟩:=hst.facts
   by_cases hlt:k<ns.length
   ·obtain ⟨b,o,rfl,_,hnd⟩:=hat k hlt
    obtain ⟨c0,c1,c2⟩:=hnd.keep hbel
    have hnm:=hs ns[k] (List.getElem_mem _)
    clear hat hnd hs
    by_cases hk1:ns[k].kind=15∨ns[k].kind=16
    ·have hdrop:=List.drop_eq_getElem_cons hlt
     have hgo0:=hst.2.1
     have hkk:((ns[k].kind != 15)=false)∨((ns[k].kind != 15)=true∧(ns[k].kind != 16)=false):=by
      rcases hk1 with h|h <;> simp [h]
     by_cases hval:ns[k].value=0∧ns[k].name=ByteArray.empty
     ·obtain ⟨hv0,hm0⟩:=hval
      have gv:(ns[k].value != 0)=false:=by simp [hv0]
      have gn:(!ns[k].name.toList.isEmpty)=false:=by have:=(toList_nil_iff_emptyBytes _).2 hm0;simp [this]
      by_cases hlen:st.length<2
      ·have HT:Hid (typedL (leafT L) ns=none):=(show typedL (leafT L) ns=none by
        unfold typedL
        rw [if_pos hl,hgo0.out,hdrop,typedGo_short hk1 (by simpa using hlen)])
       have gl:(st.length:Int)<2:=by omega
       obtain ⟨ao,cp,rfl⟩:=owns_shape hst.1.1
       clear hv0 hm0 hdrop hgo0 hk1 hst
       rcases hkk with gk|⟨gk,gk'⟩
       all_goals
        go_wp2
        refine bodyPost_ret (v:=.tuple #[.agg #[.int .i64 0,.int .i64 0],.bool false]) (by simp [results,Tryz.results183,go_sem,hsz,r0,r1]) rfl ⟨(0,0),by rw [HT.out];rfl,by rw [HT.out];simp,?_⟩
        (repeat (first|(with_reducible refine Below.alloc ?_ ?_ _;rotate_left;(first|omega|(simp;done)|(simp;omega)))|(with_reducible refine Below.setCell ?_ ?_ _;rotate_left;(first|exact Nat.le_refl _|(simp;done)|(simp;omega)))|(with_reducible refine Below.drew ?_)));exact hbel
      ·obtain ⟨st0,p,q,rfl⟩:=last_two st hlen
       obtain ⟨g,cp,rfl,hgc,hgm,hgB,hgs⟩:=owns_some hst.1.1 (by simp)
       simp only [List.length_append,List.length_cons,List.length_nil,Nat.zero_add,Nat.reduceAdd] at hst hgc
       have hpq:Sm p∧Sm q:=⟨hst.1.2 p (by simp),hst.1.2 q (by simp)⟩
       have hown0:wr.ownsRow (w.heap.size+1) 169 2 (.slice (some ⟨g,0,none⟩) (st0.length+2) cp) (st0.length+2) ((st0 ++ [p,q]).flatMap wCells):=by
        have h0:=hst.1.1
        rw [show (st0 ++ [p,q]).length=st0.length+2 by simp] at h0
        exact h0
       have d0:=owns_cell wCells_len hown0 st0.length 0 (by simp) (by omega)
       have d1:=owns_cell wCells_len hown0 st0.length 1 (by simp) (by omega)
       have d2:=owns_cell wCells_len hown0 (st0.length+1) 0 (by simp) (by omega)
       have d3:=owns_cell wCells_len hown0 (st0.length+1) 1 (by simp) (by omega)
       simp [wCells] at d0 d1 d2 d3
       have gl:¬ ((st0.length:Int)+2)<2:=by omega
       have hl0:st0.length≤1048576:=by have:=hst.2.2.2.1;simp at this;omega
       have hgo1:∀ x,joinW ns[k].kind p q=some x → Hid (typedGo (leafT L) ns []=typedGo (leafT L) (ns.drop (k+1)) (x :: st0.reverse)):=fun x hx=>(show typedGo (leafT L) ns []=_ by
        rw [hgo0.out,hdrop]
        have e:(st0 ++ [p,q]).reverse=q :: p :: st0.reverse:=by simp
        rw [e,typedGo_join hk1 hv0 hm0 hx])
       have hgo2:joinW ns[k].kind p q=none → Hid (typedL (leafT L) ns=none):=fun hx=>(show typedL (leafT L) ns=none by
        unfold typedL
        have e:(st0 ++ [p,q]).reverse=q :: p :: st0.reverse:=by simp
        rw [if_pos hl,hgo0.out,hdrop,e,typedGo_clash hk1 hx])
       have hjok:=joinRes_ok ns[k].kind p q
       have HH:=And.intro hgo1 hgo2
       have HJ:=Lib.hid (And.intro HH hjok)
       clear hv0 hm0 hdrop hgo0 hk1 HH hjok hgo1 hgo2
       rcases hkk with gk|⟨gk,gk'⟩
       all_goals
        go_wp2_with fail
        have e1:IntKind.i64.wrap ((st0.length:Int)+2 - 1 - 1)=(st0.length:Int):=by rw [show (st0.length:Int)+2 - 1 - 1=(st0.length:Int) by omega];exact IntWalk.i64_in _ (by omega)
        have e2:((st0.length:Int)+2 - 1).toNat=st0.length+1:=by omega
        have e3:0≤(st0.length:Int)+2 - 1∧(st0.length:Int)+2 - 1<(st0.length:Int)+2:=by omega
        have e4:0≤(st0.length:Int)∧(st0.length:Int)<(st0.length:Int)+2:=by omega
        have e5:1≤(st0.length:Int)+2:=by omega
        refine region_acts (C:=Exc (NoT) _) 2 [0,1,2,3,4,5,6,7,8,9,10,11,12,13,14,15,16,17] (by kernel_rfl) (by kernel_rfl) (Exc.grows _ _) (Exc.refl _ _) ?_
        iterate 11 (apply x_st rfl rfl rfl;(focus intro u hc' hf';go_simp <;> rfl);intro K hK;go_simp;apply hK;clear hK K)
        refine x_call rfl rfl rfl (Exc.grows _ _) (Exc.refl _ _) 182 (fun K hK=>?_);apply Exists.intro;refine ⟨fun w' hw'=>?_,fun w' hw' hbw=>?_⟩;(focus go_simp;rfl);refine (joinWires_any _ p q _ hpq.1 hpq.2).mono ?_;rintro e w3 ⟨rfl,hb3⟩;refine ⟨_,rfl,hb3,fun hx=>?_⟩;go_simp;apply hK;clear hK K
        iterate 3 (apply x_st rfl rfl rfl;(focus intro u hc' hf';go_simp <;> rfl);intro K hK;go_simp;apply hK;clear hK K)
        refine x_make rfl rfl rfl (Exc.grows _ _) hx (fun b=>.pointer (some ⟨b,0,none⟩)) (fun K hK=>?_)
        apply Exists.intro
        refine ⟨fun w' hw'=>?_,fun bb w4 hw4 hb4 hbo hNb hnb=>?_⟩
        ·go_simp
         rfl
        go_simp
        refine hK _ _ _ ?_
        clear hK K
        refine x_do rfl rfl rfl (Exc.grows _ _) hw4 (fun K hK=>?_)
        intro w5 hw5 hb5
        obtain ⟨m0,m1,m2⟩:=made_cell ((hb5.block bb (made_cell hbo).2.2).trans hbo)
        refine ⟨(w5.setCell ⟨bb,0,none⟩ (.int .i64 (joinRes ns[k].kind p q).1.1)).setCell ⟨bb,1,none⟩ (.int .i64 (joinRes ns[k].kind p q).1.2),?_,⟨exc_set (exc_set hw5 (.inl hNb) _) (.inl hNb) _,by simp,fun j _ hj _=>by rw [Below.heap_setCell _ _ _ _ (fun h=>hj (by simp [h])),Below.heap_setCell _ _ _ _ (fun h=>hj (by simp [h]))]⟩,?_⟩
        ·go_simp
        go_simp
        refine hK _ _ _ ?_
        clear hK K
        iterate 1 (apply x_st rfl rfl rfl;(focus intro u hc' hf';go_simp <;> rfl);intro K hK;go_simp;apply hK;clear hK K)
        refine x_nil ?_
        have hb6:Below wr.heap.size wr ((w5.setCell ⟨bb,0,none⟩ (.int .i64 (joinRes ns[k].kind p q).1.1)).setCell ⟨bb,1,none⟩ (.int .i64 (joinRes ns[k].kind p q).1.2)):=by
         have h0:wr.heap.size≤bb:=by simp at hNb;omega
         exact (((((Below.refl _ _).alloc (Nat.le_refl _) _).drew.trans (hw5.toBelow.mono (by simp))).setCell h0 _).setCell h0 _)
        have n0:((w5.setCell ⟨bb,0,none⟩ (.int .i64 (joinRes ns[k].kind p q).1.1)).setCell ⟨bb,1,none⟩ (.int .i64 (joinRes ns[k].kind p q).1.2)).cell? ⟨bb,0,none⟩=some (.int .i64 (joinRes ns[k].kind p q).1.1):=by go_simp
        have n1:((w5.setCell ⟨bb,0,none⟩ (.int .i64 (joinRes ns[k].kind p q).1.1)).setCell ⟨bb,1,none⟩ (.int .i64 (joinRes ns[k].kind p q).1.2)).cell? ⟨bb,1,none⟩=some (.int .i64 (joinRes ns[k].kind p q).1.2):=by go_simp
        have hbb:wr.heap.size≤bb:=by simp at hNb;omega
        have hbb2:bb<((w5.setCell ⟨bb,0,none⟩ (.int .i64 (joinRes ns[k].kind p q).1.1)).setCell ⟨bb,1,none⟩ (.int .i64 (joinRes ns[k].kind p q).1.2)).heap.size:=by simpa using m2
        generalize (w5.setCell ⟨bb,0,none⟩ (.int .i64 (joinRes ns[k].kind p q).1.1)).setCell ⟨bb,1,none⟩ (.int .i64 (joinRes ns[k].kind p q).1.2)=w6 at hb6 n0 n1 hbb2
        obtain ⟨hc6,hf6,hs6⟩:=bcell hb6
        have q0:=hc6 w.heap.size 0 hsz
        have q1:=hc6 w.heap.size 1 hsz
        rw [r0] at q0
        rw [r1] at q1
        have hz6:w.heap.size<w6.heap.size:=by omega
        clear hw4 hb4 hbo hNb hw5 hb5 m0 m1 m2 hx hb3
        cases hj2:(joinRes ns[k].kind p q).2
        ·have HT:Hid (typedL (leafT L) ns=none):=HJ.out.1.2 (by rw [← HJ.out.2,if_neg (by simp [hj2])])
         clear HJ hj2
         go_wp2
         refine bodyPost_ret (v:=.tuple #[.agg #[.int .i64 0,.int .i64 0],.bool false]) (by simp [results,Tryz.results183,go_sem,hz6,q0,q1]) rfl ⟨(0,0),by rw [HT.out];rfl,by rw [HT.out];simp,?_⟩
         (repeat (first|(with_reducible refine Below.alloc ?_ ?_ _;rotate_left;(first|omega|(simp;done)|(simp;omega)))|(with_reducible refine Below.setCell ?_ ?_ _;rotate_left;(first|exact Nat.le_refl _|(simp;done)|(simp;omega)))|(with_reducible refine Below.drew ?_)));exact hbel.trans (hb6.mono (by omega))
        ·have hjw:joinW ns[k].kind p q=some (joinRes ns[k].kind p q).1:=by rw [← HJ.out.2,if_pos hj2]
         have hgo:=HJ.out.1.1 _ hjw
         have hxs:=joinW_sm hpq.1 hpq.2 hjw
         clear HJ hj2 hjw
         generalize (joinRes ns[k].kind p q).1=x at *
         have e6:0≤(st0.length:Int)∧(st0.length:Int)≤(cp:Int):=by omega
         have hbg:¬ bb=g:=by omega
         have hown6:w6.ownsRow (w.heap.size+1) 169 2 (.slice (some ⟨g,0,none⟩) st0.length cp) st0.length (st0.flatMap wCells):=by
          have h0:=owns_take (owns_keep hb6 hown0) st0.length (by omega)
          rw [List.flatMap_append,List.take_left' (by have:=flat_length wCells_len st0;omega)] at h0
          exact h0
         go_wp2_with fail
         refine region_acts (C:=Exc ((fun j=>j=g)) _) 2 [0,1,2,3,4,5,6,7] (by kernel_rfl) (by kernel_rfl) (Exc.grows _ _) (Exc.refl _ _) ?_
         iterate 4 (apply x_sT rfl rfl rfl;(focus intro u hc' hf';(try simp only [World.size_drew] at hc' hf');go_simp <;> rfl);intro K hK;go_simp;apply hK;clear hK K)
         refine x_still rfl rfl rfl (fun K hK=>?_)
         apply Exists.intro
         refine ⟨fun w' hw'=>?_,?_⟩
         ·obtain ⟨hc9,hf9⟩:=hw'.cell
          have hq:=hc9 bb 0 (by simp;exact hbb2) hbg
          have hq1:=hc9 bb 1 (by simp;exact hbb2) hbg
          go_simp
          rfl
         go_simp
         refine hK _ _ _ ?_
         clear hK K
         refine x_make rfl rfl rfl (Exc.grows _ _) (Exc.refl _ _) (fun b=>.slice (some ⟨b,0,none⟩) 1 1) (fun K hK=>?_)
         apply Exists.intro
         refine ⟨fun w' hw'=>?_,fun b7 w7 hw7 hb7 hbo hNb hnb=>?_⟩
         ·go_simp
          rfl
         go_simp
         refine hK _ _ _ ?_
         clear hK K
         refine x_fits rfl rfl rfl hw7 _ _ 248 rfl (w.heap.size+1) 169 i0 2 Tryz.underlying248 hi hz1 g st0.length cp (st0.flatMap wCells) rfl (by simp;omega) rfl ⟨b7,0,none⟩ 1 1 [.int .i64 x.1,.int .i64 x.2] rfl rfl ?c1 (by omega) ?c2 ?_
         case c1=>intro u hu;simp at hu;rcases hu with rfl|rfl <;> rfl
         case c2 =>
          intro w8 hw8 hb8
          refine ⟨owns_keep hb8 (owns_keep hb7 hown6.drew),?_⟩
          obtain ⟨m0,m1,m2⟩:=made_cell ((hb8.block b7 (made_cell hbo).2.2).trans hbo)
          intro j u hj
          match j,hj with
          | 0,hj=>simp at hj;subst hj;simp [Addr.add,m0]
          | 1,hj=>simp at hj;subst hj;simp [Addr.add,m0]
         intro K hK w8 w9 hw8 hb8 hown9 hgr9 hw9
         go_simp
         refine hK _ _ _ ?_
         clear hK K
         iterate 1 (apply x_sT rfl rfl rfl;(focus intro u hc' hf';(try simp only [World.size_drew] at hc' hf');go_simp <;> rfl);intro K hK;go_simp;apply hK;clear hK K)
         refine x_nil ?_
         have hb9:Below (w.heap.size+1) wr w9:=(((hb6.mono (by omega)).drew.trans (hb7.mono (by simp;omega))).trans (hb8.mono (by have:=hb7.size;simp at this;omega))).grown hgr9 (by have:=hb7.size;have:=hb8.size;simp at *;omega) (fun j hj=>by cases hj;omega)
         have hst9:=typ_join hst hgo hxs hb9 hown9
         clear hst hgo hxs hb9 hown9 hgr9 hw9 hb8 hw8 hb7 hw7 hown6 hown0
         go_wp2
         go_roundw
         case rel=>exact ⟨k+1,_,by omega,by go_num,hst9⟩
         case measure=>simp [intOf];omega
     ·have HT:Hid (typedL (leafT L) ns=none):=(show typedL (leafT L) ns=none by
       unfold typedL
       rw [if_pos hl,hgo0.out,hdrop,typedGo_bad hk1 hval])
      have hvv:(ns[k].value != 0)=true∨((ns[k].value != 0)=false∧(!ns[k].name.toList.isEmpty)=true):=by
       by_cases h0:ns[k].value=0
       ·exact .inr ⟨by simp [h0],by simpa using fun h=>hval ⟨h0,(toList_nil_iff_emptyBytes _).1 h⟩⟩
       ·exact .inl (by simp [h0])
      clear hval hdrop hgo0 hk1 hst
      rcases hkk with gk|⟨gk,gk'⟩ <;> rcases hvv with gv|⟨gv,gv'⟩
      all_goals
       go_wp2
       refine bodyPost_ret (v:=.tuple #[.agg #[.int .i64 0,.int .i64 0],.bool false]) (by simp [results,Tryz.results183,go_sem,hsz,r0,r1]) rfl ⟨(0,0),by rw [HT.out];rfl,by rw [HT.out];simp,?_⟩
       (repeat (first|(with_reducible refine Below.alloc ?_ ?_ _;rotate_left;(first|omega|(simp;done)|(simp;omega)))|(with_reducible refine Below.setCell ?_ ?_ _;rotate_left;(first|exact Nat.le_refl _|(simp;done)|(simp;omega)))|(with_reducible refine Below.drew ?_)));exact hbel
    ·have g15:(ns[k].kind != 15)=true:=by simp;omega
     have g16:(ns[k].kind != 16)=true:=by simp;omega
     have hlw:=leafWires_any ns[k]
     rw [← HTY.out ns[k]] at hlw
     cases hok:(typRes L ns[k]).2
     ·have HT:Hid (typedL (leafT L) ns=none):=(show typedL (leafT L) ns=none by
       unfold typedL
       rw [if_pos hl,hst.2.1.out,List.drop_eq_getElem_cons hlt,typedGo_no hk1 (by simp [leafT,hok])])
      have HOK:=Lib.hid hok
      clear hok hk1
      go_wp2_with (go_at_call 184;refine (hlw _).mono ?_;rintro e w2 ⟨rfl,hb2⟩;rw [HOK.out];obtain ⟨hc2,hf2,hs2⟩:=bcell hb2;have q0:=cell_keep hb2 (alloc_keep r0 _);have q1:=cell_keep hb2 (alloc_keep r1 _);simp only [World.size_alloc] at hs2 hb2;have hz2:w.heap.size<w2.heap.size:=by omega)
      refine bodyPost_ret (v:=.tuple #[.agg #[.int .i64 0,.int .i64 0],.bool false]) (by simp [results,Tryz.results183,go_sem,hz2,q0,q1]) rfl ⟨(0,0),by rw [HT.out];rfl,by rw [HT.out];simp,?_⟩
      (repeat (first|(with_reducible refine Below.alloc ?_ ?_ _;rotate_left;(first|omega|(simp;done)|(simp;omega)))|(with_reducible refine Below.setCell ?_ ?_ _;rotate_left;(first|exact Nat.le_refl _|(simp;done)|(simp;omega)))|(with_reducible refine Below.drew ?_)));exact (hbel.alloc (by omega) _).trans (hb2.mono (by omega))
     ·have hlf:leafT L ns[k]=some (typRes L ns[k]).1:=by simp [leafT,hok]
      have hx:=hsm' _ _ hlf
      have hgo:Hid (typedGo (leafT L) ns []=typedGo (leafT L) (ns.drop (k+1)) ((typRes L ns[k]).1 :: st.reverse)):=(show typedGo (leafT L) ns []=_ by
       rw [hst.2.1.out,List.drop_eq_getElem_cons hlt,typedGo_push hk1 hlf])
      have HOK:=Lib.hid hok
      clear hok hk1 hlf
      obtain ⟨x,hxe⟩:∃ x,(typRes L ns[k]).1=x:=⟨_,rfl⟩
      rw [hxe] at hx hgo
      have HX:=Lib.hid hxe
      clear hxe
      have hown0:=hst.1.1
      have hstl:=hst.2.2.2.1
      go_wp2_with (first|(go_at_call 184;refine (hlw _).mono ?_;rintro e w2 ⟨rfl,hb2⟩;rw [HOK.out,HX.out];have hown2:=owns_keep hb2 (hown0.alloc _);have hz2':=hb2.size;simp only [World.size_alloc] at hz2')|(at_builtin;refine wpList_append_own _ rfl _ _ 248 rfl (w.heap.size+1) 169 i0 _ 2 16 Tryz.underlying248 hi hz0 hz1 hz2 rfl (by decide) _ _ _ rfl ((hown2.alloc _).alloc _) ⟨w2.heap.size+1,0,none⟩ 1 1 [.int .i64 x.1,.int .i64 x.2] rfl rfl ?c1 ?c2 ?c3 ?c4 ?c5 ?_))
      case c1 =>
       intro j u hj
       match j,hj with
       | 0,hj=>simp at hj;subst hj;simp [Addr.add]
       | 1,hj=>simp at hj;subst hj;simp [Addr.add]
      case c2=>intro u hu;simp at hu;rcases hu with rfl|rfl <;> rfl
      case c3=>unfold maxLen;omega
      case c4=>omega
      case c5=>simp;omega
      intro v' w3 hown3 hgrow _
      have hst3:=typ_push hst hgo hx hb2 hown3 hgrow
      clear hown3 hgrow hown2 hown0 hb2 hst hgo
      go_wp2
      go_roundw
      case rel=>exact ⟨k+1,_,by omega,by go_num,hst3⟩
      case measure=>simp [intOf];omega
   ·have hkn:k=ns.length:=by omega
    subst hkn
    have hne:st ≠ []:=hst.2.2.2.2.resolve_left (by omega)
    obtain ⟨x,st1,rfl⟩:=List.exists_cons_of_ne_nil hne
    obtain ⟨g,cp,rfl,hgc,hgm,hgB,hgs⟩:=owns_some hst.1.1 (by simp)
    have d0:=owns_cell wCells_len hst.1.1 0 0 (by simp) (by omega)
    have d1:=owns_cell wCells_len hst.1.1 0 1 (by simp) (by omega)
    simp [wCells] at d0 d1
    have hgo:=hst.2.1.out
    rw [List.drop_length] at hgo
    clear hne hat hst
    rcases st1 with _|⟨y,st1⟩
    ·have HT:Hid (typedL (leafT L) ns=some x):=(show typedL (leafT L) ns=some x by
      unfold typedL
      rw [if_pos hl,hgo]
      rfl)
     clear hgo
     go_wp2
     refine bodyPost_ret (v:=.tuple #[.agg #[.int .i64 x.1,.int .i64 x.2],.bool true]) (by simp [results,Tryz.results183,go_sem,hsz,r0,r1,rf0,rf1]) rfl ⟨x,by rw [HT.out];rfl,by rw [HT.out];simp,?_⟩
     (repeat (first|(with_reducible refine Below.alloc ?_ ?_ _;rotate_left;(first|omega|(simp;done)|(simp;omega)))|(with_reducible refine Below.setCell ?_ ?_ _;rotate_left;(first|exact Nat.le_refl _|(simp;done)|(simp;omega)))|(with_reducible refine Below.drew ?_)));exact hbel
    ·have HT:Hid (typedL (leafT L) ns=none):=(show typedL (leafT L) ns=none by
      unfold typedL
      rw [if_pos hl,hgo]
      have e:(x :: y :: st1).reverse=st1.reverse ++ [y,x]:=by simp
      rw [e]
      rcases st1.reverse with _|⟨a,_|⟨b,r⟩⟩ <;> rfl)
     clear hgo
     go_wp2
     refine bodyPost_ret (v:=.tuple #[.agg #[.int .i64 x.1,.int .i64 x.2],.bool false]) (by simp [results,Tryz.results183,go_sem,hsz,r0,r1,rf0,rf1];omega) rfl ⟨x,by rw [HT.out];rfl,by rw [HT.out];simp,?_⟩
     (repeat (first|(with_reducible refine Below.alloc ?_ ?_ _;rotate_left;(first|omega|(simp;done)|(simp;omega)))|(with_reducible refine Below.setCell ?_ ?_ _;rotate_left;(first|exact Nat.le_refl _|(simp;done)|(simp;omega)))|(with_reducible refine Below.drew ?_)));exact hbel
 ·have g1:inB ns.length 1 400=false:=by simp [inB];omega
  have HT:=Lib.hid (show typedL (leafT L) ns=none by unfold typedL;rw [if_neg hl])
  go_enter Tryz.func183,Tryz.ntmps183
  go_wp2_with (go_at_call 128;refine (within_any _ _ _ _).mono ?_;rintro e w1 ⟨rfl,rfl⟩)
  refine bodyPost_ret (v:=.tuple #[.agg #[.int .i64 0,.int .i64 0],.bool false]) (by simp [results,Tryz.results183,go_sem]) rfl ⟨(0,0),by rw [HT.out];rfl,by rw [HT.out];simp,?_⟩
  repeat (first|exact Below.refl _ _|with_reducible refine Below.drew ?_|refine Below.alloc ?_ (by simp <;> omega) _)
end Go.Proofs.YtbljmfcifljkaaaGreatDoor
/-
  wires and isValid of a term; slices.Grow, slices.Concat, joinNodes. Own work.
-/
namespace Go.Proofs.YtbljmfcifljkaaaGreatDoor
open Go.RowKit
set_option maxRecDepth 100000
set_option maxHeartbeats 4000000
theorem wiresT_any (v:Value) (ns:List Nd) (w:World) (hv:NdsAt w v ns) (hn:ns.length≤1048576) (hs:∀ d ∈ ns,d.name.size≤1048576) :
  Calls Tryz.prog 115 #[.agg #[v]] w (TypedPost [] ns w):=by
 obtain ⟨a,cap,rfl⟩:=hv.slice
 have hB:Below w.heap.size w ((w.alloc (.cells #[.slice a ns.length cap] 30)).alloc (.cells #[.int .i64 0,.int .i64 0] 169)):=((Below.refl _ _).alloc (Nat.le_refl _) _).alloc (by simp) _
 go_enter Tryz.func115,Tryz.ntmps115
 go_wp2_with (go_at_call 183;refine (typedLf_any _ ns [] rfl _ (hv.keep hB) hn hs).mono ?_;rintro e w2 ⟨x,rfl,hx,hb2⟩;have hs2:=hb2.size;simp only [World.size_alloc] at hs2;have q0:=hb2.cell (p:=⟨w.heap.size+1,0,none⟩) (by simp);have q1:=hb2.cell (p:=⟨w.heap.size+1,1,none⟩) (by simp);have q2:=hb2.frozen (p:=⟨w.heap.size+1,0,none⟩) (by simp);have q3:=hb2.frozen (p:=⟨w.heap.size+1,1,none⟩) (by simp);simp [go_sem] at q0 q1 q2 q3;have hz2:w.heap.size+1<w2.heap.size:=by omega)
 refine bodyPost_ret (v:=.tuple #[.agg #[.int .i64 x.1,.int .i64 x.2],.bool (typedL (leafT []) ns).isSome]) (by simp [results,Tryz.results115,go_sem,q0,q1,q2,q3,hz2]) rfl ⟨x,rfl,hx,?_⟩
 exact ((hB.trans (hb2.mono (by simp;omega))).setCell (by simp) _).setCell (by simp) _
end Go.Proofs.YtbljmfcifljkaaaGreatDoor
/-
  joinNodes, the nodes of a tree, its mirror image. Own work.
-/
namespace Go.Proofs.YtbljmfcifljkaaaGreatDoor
open Go.RowKit
set_option maxRecDepth 100000
set_option maxHeartbeats 4000000
end Go.Proofs.YtbljmfcifljkaaaGreatDoor
/-
  MirrorTerm, a rule's mirror image, at the axioms' trees. Own work.
-/
namespace Go.Proofs.YtbljmfcifljkaaaGreatDoor
open Go.RowKit
set_option maxRecDepth 100000
set_option maxHeartbeats 4000000
theorem names_ty:∀ (t:Tr) (x:W2),t.ty (leafIn [])=some x → ∀ d ∈ t.nodes,d.name.size≤1048576
 | .leaf n,x,h,d,hd=>by
  rw [Tr.nodes] at hd
  simp at hd
  subst hd
  simp only [Tr.ty,leafIn] at h
  split at h
  ·simp [findD] at h
  ·split at h
   ·rename_i hb
    unfold leafB at hb
    simp only [Bool.and_eq_true,decide_eq_true_eq] at hb
    have:d.name=ByteArray.empty:=by simp_all
    rw [this];decide
   ·cases h
 | .seq a b,x,h,d,hd=>by
  simp only [Tr.ty] at h
  split at h
  ·rename_i p q h1 h2
   rw [Tr.nodes] at hd
   simp only [List.mem_append,List.mem_singleton] at hd
   rcases hd with (hd|hd)|rfl
   ·exact names_ty a p h1 d hd
   ·exact names_ty b q h2 d hd
   ·decide
  ·cases h
 | .par a b,x,h,d,hd=>by
  simp only [Tr.ty] at h
  split at h
  ·rename_i p q h1 h2
   rw [Tr.nodes] at hd
   simp only [List.mem_append,List.mem_singleton] at hd
   rcases hd with (hd|hd)|rfl
   ·exact names_ty a p h1 d hd
   ·exact names_ty b q h2 d hd
   ·decide
  ·cases h
theorem uniq_nil:Uniq []:=by unfold Uniq;simp
end Go.Proofs.YtbljmfcifljkaaaGreatDoor
/-
  A rule's mirror image, its name with an m ahead. Own work.
-/
namespace Go.Proofs.YtbljmfcifljkaaaGreatDoor
open Go.RowKit
set_option maxRecDepth 100000
set_option maxHeartbeats 4000000
end Go.Proofs.YtbljmfcifljkaaaGreatDoor
