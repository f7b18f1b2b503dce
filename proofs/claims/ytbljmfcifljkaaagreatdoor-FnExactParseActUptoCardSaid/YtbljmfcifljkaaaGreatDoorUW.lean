/-
  The walk of treeOf: the tree of nodes that are a term. Own work.
-/
import Derived.Test.YtbljmfcifljkaaaGreatDoorUT
import Derived.Test.YtbljmfcifljkaaaGreatDoorUE
import Derived.Test.YtbljmfcifljkaaaGreatDoorUB
set_option linter.all false
set_option maxRecDepth 100000
set_option maxHeartbeats 8000000
namespace Go.Proofs.YtbljmfcifljkaaaGreatDoor
open Go.RowKit
theorem infoTree:(Tryz.prog.info? 291).map (fun i=>(i.zero,i.size,i.bytes))=some (some .nilIface,1,16):=by kernel_rfl
def tCell (t:Tr):List Value:=[trV t]
theorem tCell_len (t:Tr):(tCell t).length=1:=rfl
def TreSt (ns:List Nd) (w wr:World) (v:Value) (k:Nat) (st:List Tr):Prop :=
 wr.ownsRow w.heap.size 291 1 v st.length (st.flatMap tCell)∧Hid (treesGo ns []=treesGo (ns.drop k) st.reverse)∧Below w.heap.size w wr∧st.length≤k
theorem tre_push {ns:List Nd} {w wr:World} {v:Value} {k:Nat} {st0:List Tr} {x:Tr} (hown:wr.ownsRow w.heap.size 291 1 v (st0.length+1) (st0.flatMap tCell ++ [trV x]))
  (hgo:Hid (treesGo ns []=treesGo (ns.drop (k+1)) (x :: st0.reverse))) (hb:Below w.heap.size w wr) (hk:st0.length≤k):TreSt ns w wr v (k+1) (st0 ++ [x]):=by
 refine ⟨?_,?_,hb,by simp;omega⟩
 ·rw [List.length_append,List.flatMap_append];exact hown
 ·rw [List.reverse_append];exact hgo
theorem treeOf_any (v:Value) (ns:List Nd) (t:Tr) (w:World) (hv:NdsAt w v ns) (hn:ns.length≤1048576) (ht:treesGo ns []=some [t]) :
  Calls Tryz.prog 230 #[v] w fun e w'=>e=.returned (trV t)∧Below w.heap.size w w':=by
 obtain ⟨a,cap,rfl,hc,hat⟩:=hv
 have HT:=Lib.hid ht
 clear ht
 obtain ⟨i0,hi,hz0,hz1,hz2⟩:=info_parts infoTree
 go_enter Tryz.func230,Tryz.ntmps230
 go_wp2
 go_loopw [3,10] (fun v i wr=>∃ (k:Nat) (st:List Tr),k≤ns.length∧i=.int .i64 k∧TreSt ns w wr v k st) (fun _ i _=>ns.length - (intOf i).toNat)
 case atStart =>
  refine ⟨0,[],Nat.zero_le _,rfl,?_,(by simp [Hid]:Hid (treesGo ns []=treesGo (ns.drop 0) ([]:List Tr).reverse)),(Below.refl _ _).alloc (by simp) _,Nat.le_refl _⟩
  have:=World.ownsRow_lit (base:=w.heap.size) (size:=1) (e:=291) w #[] 0 (Nat.le_refl _) (by unfold maxLen;omega) rfl
  simpa using this
 case round =>
  obtain ⟨k,st,hk,rfl,hst⟩:=hrel
  obtain ⟨hown,hgo,hbel,hstk⟩:=hst
  have hsz:=hbel.size
  by_cases hlt:k<ns.length
  ·obtain ⟨b,o,rfl,_,hnd⟩:=hat k hlt
   obtain ⟨c0,c1,c2⟩:=hnd.keep hbel
   clear hat hnd
   have hdrop:=List.drop_eq_getElem_cons hlt
   by_cases hk1:ns[k].kind=15∨ns[k].kind=16
   ·have hlen:¬ st.length<2:=by
     intro hlen
     have h0:=hgo.out
     rw [HT.out,hdrop,treesGo_short hk1 (by simpa using hlen)] at h0
     cases h0
    obtain ⟨st0,p,q,rfl⟩:=last_two st hlen
    obtain ⟨g,cp,rfl,hgc,hgm,hgB,hgs⟩:=owns_some hown (by simp)
    simp only [List.length_append,List.length_cons,List.length_nil,Nat.zero_add,Nat.reduceAdd] at hown hgc hstk
    have d0:=owns_cell tCell_len hown st0.length 0 (by simp) (by omega)
    have d1:=owns_cell tCell_len hown (st0.length+1) 0 (by simp) (by omega)
    simp [tCell] at d0 d1
    obtain ⟨Tp,xp,hp⟩:=trV_iface p
    obtain ⟨Tq,xq,hq⟩:=trV_iface q
    rw [hp] at d0
    rw [hq] at d1
    have HS:Hid (trV (.seq p q)=.iface 348 (.agg #[.iface Tp (.agg xp),.iface Tq (.agg xq)])):=(show _=_ by rw [trV,hp,hq])
    have HP:Hid (trV (.par p q)=.iface 349 (.agg #[.iface Tp (.agg xp),.iface Tq (.agg xq)])):=(show _=_ by rw [trV,hp,hq])
    clear hp hq
    have e1:IntKind.i64.wrap ((st0.length:Int)+2 - 1 - 1)=(st0.length:Int):=by rw [show (st0.length:Int)+2 - 1 - 1=(st0.length:Int) by omega];exact IntWalk.i64_in _ (by omega)
    have e2:((st0.length:Int)+2 - 1).toNat=st0.length+1:=by omega
    have e3:0≤(st0.length:Int)+2 - 1∧(st0.length:Int)+2 - 1<(st0.length:Int)+2:=by omega
    have e4:0≤(st0.length:Int)∧(st0.length:Int)<(st0.length:Int)+2:=by omega
    have e5:0≤(st0.length:Int)∧(st0.length:Int)≤(cp:Int):=by omega
    have e6:1≤(st0.length:Int)+2:=by omega
    have hgw:g<wr.heap.size+1:=by omega
    rcases hk1 with hk1|hk1
    ·have g1:(ns[k].kind == 15)=true:=by simp [hk1]
     have hgo1:Hid (treesGo ns []=treesGo (ns.drop (k+1)) (.seq p q :: st0.reverse)):=(show _=_ by
      rw [hgo.out,hdrop]
      have e:(st0 ++ [p,q]).reverse=q :: p :: st0.reverse:=by simp
      rw [e,treesGo_seq hk1])
     clear hk1 hgo hdrop hlen
     go_wp2_with fail
     refine region_acts2 (C:=Exc (NoT) _) 9 [0,1,2,3,4,5,6,7,8,9,10,11,12,13,14,15] [16,17] (by kernel_rfl) (by kernel_rfl) (Exc.grows _ _) (Exc.refl _ _) ?_
     iterate 15 (apply x_st rfl rfl rfl;(focus intro u hc' hf';go_simp <;> rfl);intro K hK;go_simp;apply hK;clear hK K)
     refine x_make rfl rfl rfl (Exc.grows _ _) (Exc.refl _ _) (fun b=>.slice (some ⟨b,0,none⟩) 1 1) (fun K hK=>?_)
     apply Exists.intro
     refine ⟨fun w' hw'=>?_,fun bb w5 hw5 hb5 hbo hNb hnb=>?_⟩
     ·obtain ⟨hc',hf'⟩:=hw'.cell
      try simp only [World.size_drew] at hc' hf'
      go_simp
      rfl
     go_simp
     refine hK _ _ _ ?_
     clear hK K
     refine x_nil ?_
     have hb6:Below wr.heap.size wr w5:=((Below.refl _ _).alloc (Nat.le_refl _) _).drew.trans ((hw5.toBelow).mono (by simp))
     have hown6:w5.ownsRow w.heap.size 291 1 (.slice (some ⟨g,0,none⟩) st0.length cp) st0.length (st0.flatMap tCell):=by
      have h0:=owns_take (owns_keep hb6 hown) st0.length (by omega)
      rw [List.flatMap_append,List.take_left' (by have:=flat_length tCell_len st0;omega)] at h0
      exact h0
     refine ⟨Exc (fun j=>j=g) w5,w5.heap.size,Exc.grows _ _,Exc.refl _ _,?_⟩
     refine x_fits rfl rfl rfl (Exc.refl _ _) _ _ 352 rfl w.heap.size 291 i0 1 Tryz.underlying352 hi hz1 g st0.length cp (st0.flatMap tCell) rfl (by have:=hb6.size;omega) rfl ⟨bb,0,none⟩ 1 1 [trV (.seq p q)] rfl rfl ?c1 (by omega) ?c2 ?_
     case c1=>intro u hu;simp at hu;subst hu;simp only [trV,Value.cells];rfl
     case c2 =>
      intro w8 hw8 hb8
      refine ⟨owns_keep hb8 hown6,?_⟩
      obtain ⟨m0,m1,m2⟩:=made_cell ((hb8.block bb (made_cell hbo).2.2).trans hbo)
      intro j u hj
      match j,hj with
      | 0,hj=>simp at hj;subst hj;rw [HS.out];simp [Addr.add,m0]
     intro K hK w8 w9 hw8 hb8 hown9 hgr9 hw9
     go_simp
     refine hK _ _ _ ?_
     clear hK K
     iterate 1 (apply x_sT rfl rfl rfl;(focus intro u hc' hf';(try simp only [World.size_drew] at hc' hf');go_simp <;> rfl);intro K hK;go_simp;apply hK;clear hK K)
     refine x_nil ?_
     have hb9:Below w.heap.size w w9:=(hbel.trans (hb6.mono hsz)).trans ((hb8.mono (by have:=hb6.size;omega)).grown hgr9 (by have:=hb6.size;have:=hb8.size;omega) (fun j hj=>by cases hj;omega))
     have hst9:=tre_push hown9 hgo1 hb9 (by omega)
     clear hown9 hgr9 hw9 hb8 hw8 hown6 hown hb9 hb6 hw5 hb5 hbo hNb hnb hgo1 d0 d1
     go_wp2
     go_roundw
     case rel=>exact ⟨k+1,_,by omega,by go_num,hst9⟩
     case measure=>simp [intOf];omega
    ·have g1:(ns[k].kind == 15)=false:=by simp [hk1]
     have g2:(ns[k].kind == 16)=true:=by simp [hk1]
     have hgo1:Hid (treesGo ns []=treesGo (ns.drop (k+1)) (.par p q :: st0.reverse)):=(show _=_ by
      rw [hgo.out,hdrop]
      have e:(st0 ++ [p,q]).reverse=q :: p :: st0.reverse:=by simp
      rw [e,treesGo_par hk1])
     clear hk1 hgo hdrop hlen
     go_wp2_with fail
     refine region_acts2 (C:=Exc (NoT) _) 9 [0,1,2,3,4,5,6,7,8,9,10,11,12,13,14,15] [16,17] (by kernel_rfl) (by kernel_rfl) (Exc.grows _ _) (Exc.refl _ _) ?_
     iterate 15 (apply x_st rfl rfl rfl;(focus intro u hc' hf';go_simp <;> rfl);intro K hK;go_simp;apply hK;clear hK K)
     refine x_make rfl rfl rfl (Exc.grows _ _) (Exc.refl _ _) (fun b=>.slice (some ⟨b,0,none⟩) 1 1) (fun K hK=>?_)
     apply Exists.intro
     refine ⟨fun w' hw'=>?_,fun bb w5 hw5 hb5 hbo hNb hnb=>?_⟩
     ·obtain ⟨hc',hf'⟩:=hw'.cell
      try simp only [World.size_drew] at hc' hf'
      go_simp
      rfl
     go_simp
     refine hK _ _ _ ?_
     clear hK K
     refine x_nil ?_
     have hb6:Below wr.heap.size wr w5:=((Below.refl _ _).alloc (Nat.le_refl _) _).drew.trans ((hw5.toBelow).mono (by simp))
     have hown6:w5.ownsRow w.heap.size 291 1 (.slice (some ⟨g,0,none⟩) st0.length cp) st0.length (st0.flatMap tCell):=by
      have h0:=owns_take (owns_keep hb6 hown) st0.length (by omega)
      rw [List.flatMap_append,List.take_left' (by have:=flat_length tCell_len st0;omega)] at h0
      exact h0
     refine ⟨Exc (fun j=>j=g) w5,w5.heap.size,Exc.grows _ _,Exc.refl _ _,?_⟩
     refine x_fits rfl rfl rfl (Exc.refl _ _) _ _ 352 rfl w.heap.size 291 i0 1 Tryz.underlying352 hi hz1 g st0.length cp (st0.flatMap tCell) rfl (by have:=hb6.size;omega) rfl ⟨bb,0,none⟩ 1 1 [trV (.par p q)] rfl rfl ?c1 (by omega) ?c2 ?_
     case c1=>intro u hu;simp at hu;subst hu;simp only [trV,Value.cells];rfl
     case c2 =>
      intro w8 hw8 hb8
      refine ⟨owns_keep hb8 hown6,?_⟩
      obtain ⟨m0,m1,m2⟩:=made_cell ((hb8.block bb (made_cell hbo).2.2).trans hbo)
      intro j u hj
      match j,hj with
      | 0,hj=>simp at hj;subst hj;rw [HP.out];simp [Addr.add,m0]
     intro K hK w8 w9 hw8 hb8 hown9 hgr9 hw9
     go_simp
     refine hK _ _ _ ?_
     clear hK K
     iterate 1 (apply x_sT rfl rfl rfl;(focus intro u hc' hf';(try simp only [World.size_drew] at hc' hf');go_simp <;> rfl);intro K hK;go_simp;apply hK;clear hK K)
     refine x_nil ?_
     have hb9:Below w.heap.size w w9:=(hbel.trans (hb6.mono hsz)).trans ((hb8.mono (by have:=hb6.size;omega)).grown hgr9 (by have:=hb6.size;have:=hb8.size;omega) (fun j hj=>by cases hj;omega))
     have hst9:=tre_push hown9 hgo1 hb9 (by omega)
     clear hown9 hgr9 hw9 hb8 hw8 hown6 hown hb9 hb6 hw5 hb5 hbo hNb hnb hgo1 d0 d1
     go_wp2
     go_roundw
     case rel=>exact ⟨k+1,_,by omega,by go_num,hst9⟩
     case measure=>simp [intOf];omega
   ·have g1:(ns[k].kind == 15)=false:=by simp;omega
    have g2:(ns[k].kind == 16)=false:=by simp;omega
    have hgo1:Hid (treesGo ns []=treesGo (ns.drop (k+1)) (.leaf ns[k] :: st.reverse)):=(show _=_ by rw [hgo.out,hdrop,treesGo_leaf hk1])
    obtain ⟨ao,cp,rfl⟩:=owns_shape hown
    clear hk1 hgo hdrop
    go_wp2_with (at_builtin;refine wpList_append_own _ rfl _ _ 352 rfl w.heap.size 291 i0 _ 1 16 Tryz.underlying352 hi hz0 hz1 hz2 rfl (by decide) _ _ _ rfl ((hown.alloc _).alloc _) ⟨wr.heap.size+1,0,none⟩ 1 1 [trV (.leaf ns[k])] rfl rfl ?c1 ?c2 ?c3 ?c4 ?c5 ?_)
    case c1 =>
     intro j u hj
     match j,hj with
     | 0,hj=>simp at hj;subst hj;simp [Addr.add,trV]
    case c2=>intro u hu;simp at hu;subst hu;rfl
    case c3=>unfold maxLen;omega
    case c4=>omega
    case c5=>simp;omega
    intro v' w3 hown3 hgrow _
    have hb3:Below w.heap.size w w3:=((hbel.alloc (by omega) _).alloc (by simp;omega) _).grown hgrow (by simp;omega) (fun j hj=>(World.ownsRow.lt hown j hj).1)
    have hst3:=tre_push hown3 hgo1 hb3 (by omega)
    clear hown3 hgrow hown hb3 hgo1
    go_wp2
    go_roundw
    case rel=>exact ⟨k+1,_,by omega,by go_num,hst3⟩
    case measure=>simp [intOf];omega
  ·have hkn:k=ns.length:=by omega
   subst hkn
   have h0:=hgo.out
   rw [HT.out,List.drop_length,treesGo] at h0
   have hst1:st=[t]:=by
    have:=congrArg List.reverse (Option.some.inj h0).symm
    simpa using this
   subst hst1
   obtain ⟨g,cp,rfl,hgc,hgm,hgB,hgs⟩:=owns_some hown (by simp)
   have d0:=owns_cell tCell_len hown 0 0 (by simp) (by omega)
   simp [tCell] at d0
   clear h0 hgo hat HT
   go_wp2
   go_ret
   exact ⟨rfl,hbel⟩
end Go.Proofs.YtbljmfcifljkaaaGreatDoor
