/-
  The walk of treeOf: the tree of nodes that are a term. Own work.
-/
import Derived.Test.YtldhpaflmnlcaaaGreatDoorQT
import Derived.Test.YtldhpaflmnlcaaaGreatDoorQE
import Derived.Test.YtldhpaflmnlcaaaGreatDoorQB
import Derived.Test.YtldhpaflmnlcaaaGreatDoorQV
import Derived.Test.YtldhpaflmnlcaaaGreatDoorQH
import Derived.Test.YtldhpaflmnlcaaaGreatDoorQL
import Derived.Test.YtldhpaflmnlcaaaGreatDoorQAP
set_option linter.all false
set_option maxRecDepth 100000
set_option maxHeartbeats 8000000
namespace Go.Proofs.YtldhpaflmnlcaaaGreatDoor
open Go.RowKit
theorem infoTree:(Tryz.prog.info? 223).map (fun i=>(i.zero,i.size,i.bytes))=some (some .nilIface,1,16):=by kernel_rfl
def tCell (t:Tr):List Value:=[trV t]
theorem tCell_len (t:Tr):(tCell t).length=1:=rfl
def TreSt (ns:List Nd) (w wr:World) (v:Value) (k:Nat) (st:List Tr):Prop :=
 wr.ownsRow w.heap.size 223 1 v st.length (st.flatMap tCell)∧Hid (treesGo ns []=treesGo (ns.drop k) st.reverse)∧Below w.heap.size w wr∧st.length≤k
theorem tre_push {ns:List Nd} {w wr:World} {v:Value} {k:Nat} {st0:List Tr} {x:Tr} (hown:wr.ownsRow w.heap.size 223 1 v (st0.length+1) (st0.flatMap tCell ++ [trV x]))
  (hgo:Hid (treesGo ns []=treesGo (ns.drop (k+1)) (x :: st0.reverse))) (hb:Below w.heap.size w wr) (hk:st0.length≤k):TreSt ns w wr v (k+1) (st0 ++ [x]):=by
 refine ⟨?_,?_,hb,by simp;omega⟩
 ·rw [List.length_append,List.flatMap_append];exact hown
 ·rw [List.reverse_append];exact hgo
theorem treeOf_any (v:Value) (ns:List Nd) (t:Tr) (w:World) (hv:NdsAt w v ns) (hn:ns.length≤1048576) (ht:treesGo ns []=some [t]) :
  Calls Tryz.prog 189 #[v] w fun e w'=>e=.returned (trV t)∧Below w.heap.size w w':=by
 obtain ⟨a,cap,rfl,hc,hat⟩:=hv
 have HT:=Lib.hid ht
 clear ht
 obtain ⟨i0,hi,hz0,hz1,hz2⟩:=info_parts infoTree
 go_enter Tryz.func189,Tryz.ntmps189
 go_wp2
 go_loopw [3,10] (fun v i wr=>∃ (k:Nat) (st:List Tr),k≤ns.length∧i=.int .i64 k∧TreSt ns w wr v k st) (fun _ i _=>ns.length - (intOf i).toNat)
 case atStart =>
  refine ⟨0,[],Nat.zero_le _,rfl,?_,(by simp [Hid]:Hid (treesGo ns []=treesGo (ns.drop 0) ([]:List Tr).reverse)),(Below.refl _ _).alloc (by simp) _,Nat.le_refl _⟩
  have:=World.ownsRow_lit (base:=w.heap.size) (size:=1) (e:=223) w #[] 0 (Nat.le_refl _) (by unfold maxLen;omega) rfl
  simpa using this
 case round =>
  obtain ⟨k,st,hk,rfl,hst⟩:=hrel
  obtain ⟨hown,hgo,hbel,hstk⟩:=hst
  have hsz:=hbel.size
  by_cases hlt:k<ns.length
  ·obtain ⟨b,o,rfl,_,hnd⟩:=hat k hlt
   obtain ⟨c0,c1,c2⟩:=hnd.keep hbel
   clear hat hnd
   have hdrop:=List.drop_eq_getElem_cons hlt
   by_cases hk1:ns[k].kind=15∨ns[k].kind=16
   ·have hlen:¬ st.length<2:=by
     intro hlen
     have h0:=hgo.out
     rw [HT.out,hdrop,treesGo_short hk1 (by simpa using hlen)] at h0
     cases h0
    obtain ⟨st0,p,q,rfl⟩:=last_two st hlen
    obtain ⟨g,cp,rfl,hgc,hgm,hgB,hgs⟩:=owns_some hown (by simp)
    simp only [List.length_append,List.length_cons,List.length_nil,Nat.zero_add,Nat.reduceAdd] at hown hgc hstk
    have d0:=owns_cell tCell_len hown st0.length 0 (by simp) (by omega)
    have d1:=owns_cell tCell_len hown (st0.length+1) 0 (by simp) (by omega)
    simp [tCell] at d0 d1
    obtain ⟨Tp,xp,hp⟩:=trV_iface p
    obtain ⟨Tq,xq,hq⟩:=trV_iface q
    rw [hp] at d0
    rw [hq] at d1
    have HS:Hid (trV (.seq p q)=.iface 255 (.agg #[.iface Tp (.agg xp),.iface Tq (.agg xq)])):=(show _=_ by rw [trV,hp,hq])
    have HP:Hid (trV (.par p q)=.iface 258 (.agg #[.iface Tp (.agg xp),.iface Tq (.agg xq)])):=(show _=_ by rw [trV,hp,hq])
    clear hp hq
    have e1:IntKind.i64.wrap ((st0.length:Int)+2 - 1 - 1)=(st0.length:Int):=by rw [show (st0.length:Int)+2 - 1 - 1=(st0.length:Int) by omega];exact IntWalk.i64_in _ (by omega)
    have e2:((st0.length:Int)+2 - 1).toNat=st0.length+1:=by omega
    have e3:0≤(st0.length:Int)+2 - 1∧(st0.length:Int)+2 - 1<(st0.length:Int)+2:=by omega
    have e4:0≤(st0.length:Int)∧(st0.length:Int)<(st0.length:Int)+2:=by omega
    have e5:0≤(st0.length:Int)∧(st0.length:Int)≤(cp:Int):=by omega
    have e6:1≤(st0.length:Int)+2:=by omega
    have hgw:g<wr.heap.size+1:=by omega
    rcases hk1 with hk1|hk1
    ·have g1:(ns[k].kind == 15)=true:=by simp [hk1]
     have hgo1:Hid (treesGo ns []=treesGo (ns.drop (k+1)) (.seq p q :: st0.reverse)):=(show _=_ by
      rw [hgo.out,hdrop]
      have e:(st0 ++ [p,q]).reverse=q :: p :: st0.reverse:=by simp
      rw [e,treesGo_seq hk1])
     clear hk1 hgo hdrop hlen
     go_wp2_with fail
     refine region_acts2 (C:=Exc (NoT) _) 9 [0,1,2,3,4,5,6,7,8,9,10,11,12,13,14,15] [16,17] (by kernel_rfl) (by kernel_rfl) (Exc.grows _ _) (Exc.refl _ _) ?_
     iterate 15 (apply x_st rfl rfl rfl;(focus intro u hc' hf';go_simp <;> rfl);intro K hK;go_simp;apply hK;clear hK K)
     refine x_make rfl rfl rfl (Exc.grows _ _) (Exc.refl _ _) (fun b=>.slice (some ⟨b,0,none⟩) 1 1) (fun K hK=>?_)
     apply Exists.intro
     refine ⟨fun w' hw'=>?_,fun bb w5 hw5 hb5 hbo hNb hnb=>?_⟩
     ·obtain ⟨hc',hf'⟩:=hw'.cell
      try simp only [World.size_drew] at hc' hf'
      go_simp
      rfl
     go_simp
     refine hK _ _ _ ?_
     clear hK K
     refine x_nil ?_
     have hb6:Below wr.heap.size wr w5:=((Below.refl _ _).alloc (Nat.le_refl _) _).drew.trans ((hw5.toBelow).mono (by simp))
     have hown6:w5.ownsRow w.heap.size 223 1 (.slice (some ⟨g,0,none⟩) st0.length cp) st0.length (st0.flatMap tCell):=by
      have h0:=owns_take (owns_keep hb6 hown) st0.length (by omega)
      rw [List.flatMap_append,List.take_left' (by have:=flat_length tCell_len st0;omega)] at h0
      exact h0
     refine ⟨Exc (fun j=>j=g) w5,w5.heap.size,Exc.grows _ _,Exc.refl _ _,?_⟩
     refine x_fits rfl rfl rfl (Exc.refl _ _) _ _ 261 rfl w.heap.size 223 i0 1 Tryz.underlying261 hi hz1 g st0.length cp (st0.flatMap tCell) rfl (by have:=hb6.size;omega) rfl ⟨bb,0,none⟩ 1 1 [trV (.seq p q)] rfl rfl ?c1 (by omega) ?c2 ?_
     case c1=>intro u hu;simp at hu;subst hu;simp only [trV,Value.cells];rfl
     case c2 =>
      intro w8 hw8 hb8
      refine ⟨owns_keep hb8 hown6,?_⟩
      obtain ⟨m0,m1,m2⟩:=made_cell ((hb8.block bb (made_cell hbo).2.2).trans hbo)
      intro j u hj
      match j,hj with
      | 0,hj=>simp at hj;subst hj;rw [HS.out];simp [Addr.add,m0]
     intro K hK w8 w9 hw8 hb8 hown9 hgr9 hw9
     go_simp
     refine hK _ _ _ ?_
     clear hK K
     iterate 1 (apply x_sT rfl rfl rfl;(focus intro u hc' hf';(try simp only [World.size_drew] at hc' hf');go_simp <;> rfl);intro K hK;go_simp;apply hK;clear hK K)
     refine x_nil ?_
     have hb9:Below w.heap.size w w9:=(hbel.trans (hb6.mono hsz)).trans ((hb8.mono (by have:=hb6.size;omega)).grown hgr9 (by have:=hb6.size;have:=hb8.size;omega) (fun j hj=>by cases hj;omega))
     have hst9:=tre_push hown9 hgo1 hb9 (by omega)
     clear hown9 hgr9 hw9 hb8 hw8 hown6 hown hb9 hb6 hw5 hb5 hbo hNb hnb hgo1 d0 d1
     go_wp2
     go_roundw
     case rel=>exact ⟨k+1,_,by omega,by go_num,hst9⟩
     case measure=>simp [intOf];omega
    ·have g1:(ns[k].kind == 15)=false:=by simp [hk1]
     have g2:(ns[k].kind == 16)=true:=by simp [hk1]
     have hgo1:Hid (treesGo ns []=treesGo (ns.drop (k+1)) (.par p q :: st0.reverse)):=(show _=_ by
      rw [hgo.out,hdrop]
      have e:(st0 ++ [p,q]).reverse=q :: p :: st0.reverse:=by simp
      rw [e,treesGo_par hk1])
     clear hk1 hgo hdrop hlen
     go_wp2_with fail
     refine region_acts2 (C:=Exc (NoT) _) 9 [0,1,2,3,4,5,6,7,8,9,10,11,12,13,14,15] [16,17] (by kernel_rfl) (by kernel_rfl) (Exc.grows _ _) (Exc.refl _ _) ?_
     iterate 15 (apply x_st rfl rfl rfl;(focus intro u hc' hf';go_simp <;> rfl);intro K hK;go_simp;apply hK;clear hK K)
     refine x_make rfl rfl rfl (Exc.grows _ _) (Exc.refl _ _) (fun b=>.slice (some ⟨b,0,none⟩) 1 1) (fun K hK=>?_)
     apply Exists.intro
     refine ⟨fun w' hw'=>?_,fun bb w5 hw5 hb5 hbo hNb hnb=>?_⟩
     ·obtain ⟨hc',hf'⟩:=hw'.cell
      try simp only [World.size_drew] at hc' hf'
      go_simp
      rfl
     go_simp
     refine hK _ _ _ ?_
     clear hK K
     refine x_nil ?_
     have hb6:Below wr.heap.size wr w5:=((Below.refl _ _).alloc (Nat.le_refl _) _).drew.trans ((hw5.toBelow).mono (by simp))
     have hown6:w5.ownsRow w.heap.size 223 1 (.slice (some ⟨g,0,none⟩) st0.length cp) st0.length (st0.flatMap tCell):=by
      have h0:=owns_take (owns_keep hb6 hown) st0.length (by omega)
      rw [List.flatMap_append,List.take_left' (by have:=flat_length tCell_len st0;omega)] at h0
      exact h0
     refine ⟨Exc (fun j=>j=g) w5,w5.heap.size,Exc.grows _ _,Exc.refl _ _,?_⟩
     refine x_fits rfl rfl rfl (Exc.refl _ _) _ _ 261 rfl w.heap.size 223 i0 1 Tryz.underlying261 hi hz1 g st0.length cp (st0.flatMap tCell) rfl (by have:=hb6.size;omega) rfl ⟨bb,0,none⟩ 1 1 [trV (.par p q)] rfl rfl ?c1 (by omega) ?c2 ?_
     case c1=>intro u hu;simp at hu;subst hu;simp only [trV,Value.cells];rfl
     case c2 =>
      intro w8 hw8 hb8
      refine ⟨owns_keep hb8 hown6,?_⟩
      obtain ⟨m0,m1,m2⟩:=made_cell ((hb8.block bb (made_cell hbo).2.2).trans hbo)
      intro j u hj
      match j,hj with
      | 0,hj=>simp at hj;subst hj;rw [HP.out];simp [Addr.add,m0]
     intro K hK w8 w9 hw8 hb8 hown9 hgr9 hw9
     go_simp
     refine hK _ _ _ ?_
     clear hK K
     iterate 1 (apply x_sT rfl rfl rfl;(focus intro u hc' hf';(try simp only [World.size_drew] at hc' hf');go_simp <;> rfl);intro K hK;go_simp;apply hK;clear hK K)
     refine x_nil ?_
     have hb9:Below w.heap.size w w9:=(hbel.trans (hb6.mono hsz)).trans ((hb8.mono (by have:=hb6.size;omega)).grown hgr9 (by have:=hb6.size;have:=hb8.size;omega) (fun j hj=>by cases hj;omega))
     have hst9:=tre_push hown9 hgo1 hb9 (by omega)
     clear hown9 hgr9 hw9 hb8 hw8 hown6 hown hb9 hb6 hw5 hb5 hbo hNb hnb hgo1 d0 d1
     go_wp2
     go_roundw
     case rel=>exact ⟨k+1,_,by omega,by go_num,hst9⟩
     case measure=>simp [intOf];omega
   ·have g1:(ns[k].kind == 15)=false:=by simp;omega
    have g2:(ns[k].kind == 16)=false:=by simp;omega
    have hgo1:Hid (treesGo ns []=treesGo (ns.drop (k+1)) (.leaf ns[k] :: st.reverse)):=(show _=_ by rw [hgo.out,hdrop,treesGo_leaf hk1])
    obtain ⟨ao,cp,rfl⟩:=owns_shape hown
    clear hk1 hgo hdrop
    go_wp2_with (at_builtin;refine wpList_append_own _ rfl _ _ 261 rfl w.heap.size 223 i0 _ 1 16 Tryz.underlying261 hi hz0 hz1 hz2 rfl (by decide) _ _ _ rfl ((hown.alloc _).alloc _) ⟨wr.heap.size+1,0,none⟩ 1 1 [trV (.leaf ns[k])] rfl rfl ?c1 ?c2 ?c3 ?c4 ?c5 ?_)
    case c1 =>
     intro j u hj
     match j,hj with
     | 0,hj=>simp at hj;subst hj;simp [Addr.add,trV]
    case c2=>intro u hu;simp at hu;subst hu;rfl
    case c3=>unfold maxLen;omega
    case c4=>omega
    case c5=>simp;omega
    intro v' w3 hown3 hgrow _
    have hb3:Below w.heap.size w w3:=((hbel.alloc (by omega) _).alloc (by simp;omega) _).grown hgrow (by simp;omega) (fun j hj=>(World.ownsRow.lt hown j hj).1)
    have hst3:=tre_push hown3 hgo1 hb3 (by omega)
    clear hown3 hgrow hown hb3 hgo1
    go_wp2
    go_roundw
    case rel=>exact ⟨k+1,_,by omega,by go_num,hst3⟩
    case measure=>simp [intOf];omega
  ·have hkn:k=ns.length:=by omega
   subst hkn
   have h0:=hgo.out
   rw [HT.out,List.drop_length,treesGo] at h0
   have hst1:st=[t]:=by
    have:=congrArg List.reverse (Option.some.inj h0).symm
    simpa using this
   subst hst1
   obtain ⟨g,cp,rfl,hgc,hgm,hgB,hgs⟩:=owns_some hown (by simp)
   have d0:=owns_cell tCell_len hown 0 0 (by simp) (by omega)
   simp [tCell] at d0
   clear h0 hgo hat HT
   go_wp2
   go_ret
   exact ⟨rfl,hbel⟩
end Go.Proofs.YtldhpaflmnlcaaaGreatDoor
/-
  The program's EntryText: what it returns. Own work.
-/
namespace Go.Proofs.YtldhpaflmnlcaaaGreatDoor
open Go.RowKit
theorem applyE_parts {L R:List Df} {e:En} (h:applyE L e=some R):good L=true∧plainE e=true∧1≤e.kind∧e.kind≤3∧(e.kind=1 → ∃ t,treesGo e.body []=some [t]∧t.Ok∧t.count≤400∧e.name.size≤8):=by
 unfold applyE at h
 split at h
 ·rename_i hg
  refine ⟨hg.1,hg.2,?_⟩
  split at h
  ·rename_i hk
   refine ⟨by omega,by omega,fun _=>?_⟩
   unfold addL at h
   rw [if_pos hg.1] at h
   have hq:=okL_good h
   have hgR:=hq.1
   rw [hq.2] at hgR
   have h1:typedL (leafIn L) (joD L e).body=some ((joD L e).inn,(joD L e).out):=by
    refine Classical.byContradiction fun hne=>?_
    rw [good_snoc_no hg.1 hne] at hgR
    cases hgR
   have h2:=good_bnd hgR (joD L e) (by simp)
   obtain ⟨t,q1,q2,q3⟩:=tree_of_typed (fun d hd=>(good_bnd hg.1 d hd).1) h1
   exact ⟨t,q1,q2,q3,h2.1⟩
  ·split at h
   ·exact ⟨by omega,by omega,fun hh=>by omega⟩
   ·split at h
    ·exact ⟨by omega,by omega,fun hh=>by omega⟩
    ·cases h
 ·cases h
theorem defText_any (nm:ByteArray) (i o:Int) (v:Value) (ns:List Nd) (t:Tr) (w:World) (hv:NdsAt w v ns) (hn:ns.length≤1048576) (hs:nm.size≤1048576) (ht:treesGo ns []=some [t]) (hok:t.Ok) (hc:t.count≤400) :
  Calls Tryz.prog 137 #[.agg #[.string nm,.int .i64 i,.int .i64 o,v]] w fun e w'=>e=.returned (.string (nm ++ bEq ++ prT false t))∧Below w.heap.size w w':=by
 obtain ⟨a,cap,rfl⟩:=hv.slice
 have hz:=prT_size false t hok
 have hz2:(nm ++ bEq).size≤1048580:=by rw [bsize];have:bEq.size=3:=rfl;omega
 have n1:¬ 9223372036854775807<nm.size+3:=by omega
 have n2:¬ 9223372036854775807<nm.size+3+(prT false t).size:=by omega
 have n3:¬ 9223372036854775807<(nm ++ (⟨#[32,61,32]⟩:ByteArray)).size+(prT false t).size:=by have:(nm ++ (⟨#[32,61,32]⟩:ByteArray)).size≤1048580:=hz2;omega
 have HT:=Lib.hid ht
 clear ht
 go_enter Tryz.func137,Tryz.ntmps137
 go_wp2_with fail
 refine region_grow (C:=Grew (w.alloc _).drew) 9 (by kernel_rfl) (by kernel_rfl) (by kernel_rfl) (Grew.refl _) ?_
 simp only [List.take_succ_cons,List.take_zero,List.drop_succ_cons,List.drop_zero]
 iterate 6
  refine g_step (fun K hK=>?_)
  refine g_still rfl ?_
  apply Exists.intro
  refine ⟨fun w' hw'=>?_,?_⟩
  ·obtain ⟨hc',hf',_⟩:=bcell hw'
   go_simp
   rfl
  go_simp
  refine hK _ _ ?_
  clear hK K
 refine g_step (fun K hK=>?_);refine g_call rfl rfl 189 ?_;apply Exists.intro;refine ⟨fun w' hw'=>?_,?_⟩;(focus go_simp;rfl);refine (treeOf_any _ ns t _ ((hv.keep (alloc_below _ _)).keep (Below.refl _ _).drew) hn HT.out).mono ?_;rintro e w3 ⟨rfl,hb3⟩;refine ⟨_,rfl,hb3,?_⟩;go_simp;apply hK;clear hK K
 refine g_step (fun K hK=>?_);refine g_call rfl rfl 188 ?_;apply Exists.intro;refine ⟨fun w' hw'=>?_,?_⟩;(focus go_simp;rfl);refine (printed_any false t _ hok (by omega)).mono ?_;rintro e w4 ⟨rfl,hb4⟩;refine ⟨_,rfl,hb3.trans (hb4.mono hb3.size),?_⟩;go_simp;apply hK;clear hK K
 iterate 1
  refine g_step (fun K hK=>?_)
  refine g_still rfl ?_
  apply Exists.intro
  refine ⟨fun w' hw'=>?_,?_⟩
  ·obtain ⟨hc',hf',_⟩:=bcell hw'
   go_simp
   rfl
  go_simp
  refine hK _ _ ?_
  clear hK K
 refine g_nil ?_
 go_wp2
 go_ret
 exact ⟨rfl,(alloc_below _ _).drew.trans ((hb3.trans (hb4.mono hb3.size)).mono (by simp))⟩
theorem text3_any (v vb:Value) (L:List Df) (e:En) (t:Tr) (w:World) (hv:DfsAt w v L) (hn:L.length≤1048576) (hs:∀ x ∈ L,DfOk x) (hg:good L=true) (hvb:NdsAt w vb e.body) (he:EnOk e) (ht:treesGo e.body []=some [t]) (hok:t.Ok) (hc:t.count≤400) :
  Calls Tryz.prog 136 #[v,.agg #[.int .i64 e.kind,.string e.name,.string e.to,vb]] w fun r w'=>r=.returned (.string (e.name ++ bEq ++ prT false t))∧Below w.heap.size w w':=by
 obtain ⟨a,cap,rfl⟩:∃ a cap,v=.slice a L.length cap:=by obtain ⟨a,cap,rfl,_⟩:=hv;exact ⟨a,cap,rfl⟩
 obtain ⟨ab,cb,rfl⟩:=hvb.slice
 have HG:=Lib.hid hg
 have HT:=Lib.hid ht
 clear hg ht
 go_enter Tryz.func136,Tryz.ntmps136
 go_wp2_with (first|(go_at_call 135;refine (definition_any _ _ L e _ (hv.keep (alloc_below _ _)) hn hs HG.out (hvb.keep (alloc_below _ _)) he).mono ?_;rintro r w2 ⟨x,rfl,hx,hb2⟩;have hb2':Below w.heap.size w w2:=(alloc_below _ _).trans (hb2.mono (by simp)))|(go_at_call 137;refine (defText_any e.name x.1 x.2 _ e.body t _ (hvb.keep hb2') he.2.2.2 he.1 HT.out hok hc).mono ?_;rintro r w3 ⟨rfl,hb3⟩))
 go_ret
 exact ⟨rfl,hb2'.trans (hb3.mono hb2'.size)⟩
theorem text7_any (v:Value) (k:Int) (nm to:ByteArray) (vb:Value) (w:World) (ab:Option Addr) (n c:Nat) (hv:vb=.slice ab n c) (av:Option Addr) (m cv:Nat) (hvv:v=.slice av m cv) :
  Calls Tryz.prog 142 #[v,.agg #[.int .i64 k,.string nm,.string to,vb]] w fun r w'=>r=.returned (.string nm)∧Below w.heap.size w w':=by
 subst hv hvv
 go_enter Tryz.func142,Tryz.ntmps142
 go_wp2
 go_ret
 exact ⟨rfl,alloc_below _ _⟩
theorem text11_any (v:Value) (k:Int) (nm to:ByteArray) (vb:Value) (w:World) (ab:Option Addr) (n c:Nat) (hv:vb=.slice ab n c) (av:Option Addr) (m cv:Nat) (hvv:v=.slice av m cv) (h1:nm.size≤1048576) (h2:to.size≤1048576) :
  Calls Tryz.prog 147 #[v,.agg #[.int .i64 k,.string nm,.string to,vb]] w fun r w'=>r=.returned (.string (nm ++ bSp ++ to))∧Below w.heap.size w w':=by
 subst hv hvv
 have hz2:(nm ++ bSp).size≤1048580:=by rw [bsize];have:bSp.size=1:=rfl;omega
 go_enter Tryz.func147,Tryz.ntmps147
 go_wp2
 go_ret
 exact ⟨rfl,alloc_below _ _⟩
end Go.Proofs.YtldhpaflmnlcaaaGreatDoor
/-
  The program's EntryText, walked. Own work.
-/
namespace Go.Proofs.YtldhpaflmnlcaaaGreatDoor
open Go.RowKit
def textO (L:List Df) (e:En):Option ByteArray:=if (applyE L e).isSome then some (txtE e) else none
def TxtPost (o:Option ByteArray) (w:World) (r:Ending) (w':World):Prop:=r=.returned (.tuple #[.string (o.getD ⟨#[]⟩),.bool o.isSome])∧Below w.heap.size w w'
theorem textO_none {L:List Df} {e:En} (h:applyE L e=none):textO L e=none:=by simp [textO,h]
theorem textO_some {L R:List Df} {e:En} (h:applyE L e=some R):textO L e=some (txtE e):=by simp [textO,h]
theorem implText_no (v vb:Value) (L:List Df) (e:En) (w:World) (hv:DfsAt w v L) (hn:L.length≤1048576) (hs:∀ x ∈ L,DfOk x) (hvb:NdsAt w vb e.body) (he:EnOk e) (h:applyE L e=none) :
  Calls Tryz.prog 36 #[v,.agg #[.int .i64 e.kind,.string e.name,.string e.to,vb]] w (TxtPost (textO L e) w):=by
 obtain ⟨a,cap,rfl⟩:∃ a cap,v=.slice a L.length cap:=by obtain ⟨a,cap,rfl,_⟩:=hv;exact ⟨a,cap,rfl⟩
 obtain ⟨ab,cb,rfl⟩:=hvb.slice
 have HA:=Lib.hid (show (applyE L e).isSome=false by rw [h];rfl)
 rw [textO_none h]
 clear h
 go_enter Tryz.func36,Tryz.ntmps36
 go_wp2_with (go_at_call 39;refine (implApply_any _ _ L e _ (hv.keep (alloc_below _ _)) hn hs (hvb.keep (alloc_below _ _)) he).mono ?_;rintro r w1 ⟨v1,rfl,ho1,hb1⟩;rw [HA.out])
 go_ret2
 exact ⟨rfl,(alloc_below _ _).trans (hb1.mono (by simp))⟩
theorem implText_1 (v vb:Value) (L R:List Df) (e:En) (w:World) (hk:e.kind=1) (hv:DfsAt w v L) (hn:L.length≤1048576) (hs:∀ x ∈ L,DfOk x) (hvb:NdsAt w vb e.body) (he:EnOk e) (h:applyE L e=some R) :
  Calls Tryz.prog 36 #[v,.agg #[.int .i64 e.kind,.string e.name,.string e.to,vb]] w (TxtPost (textO L e) w):=by
 obtain ⟨a,cap,rfl⟩:∃ a cap,v=.slice a L.length cap:=by obtain ⟨a,cap,rfl,_⟩:=hv;exact ⟨a,cap,rfl⟩
 obtain ⟨ab,cb,rfl⟩:=hvb.slice
 obtain ⟨hg,_,_,_,hpt⟩:=applyE_parts h
 have HA:=Lib.hid (show (applyE L e).isSome=true by rw [h];rfl)
 have HG:=Lib.hid hg
 have HK:=Lib.hid hk
 obtain ⟨t,ht,hok,hc,hnm⟩:=hpt hk
 have HT:=Lib.hid ht
 have hz:=prT_size false t hok
 have HX:Hid (txtE e=bLet ++ (e.name ++ bEq ++ prT false t)):=(show _=_ by unfold txtE;rw [if_pos hk,treeL_eq ht])
 have hzt:(e.name ++ bEq ++ prT false t).size≤1048576:=by rw [bsize,bsize];have:bEq.size=3:=rfl;omega
 have n1:¬ 9223372036854775807<wLet.size+(e.name.size+bEq.size+(prT false t).size):=by have h1:wLet.size=4:=rfl;have h2:bEq.size=3:=rfl;omega
 rw [textO_some h]
 clear h hg hpt hk ht
 go_enter Tryz.func36,Tryz.ntmps36
 go_wp2_with fail
 refine (implApply_any _ _ L e _ (hv.keep (alloc_below _ _)) hn hs (hvb.keep (alloc_below _ _)) he).mono ?_
 rintro r w1 ⟨v1,rfl,ho1,hb1⟩
 rw [HA.out]
 have hB1:Below (w.heap.size+1) (w.alloc (.cells #[.int .i64 e.kind,.string e.name,.string e.to,.slice ab e.body.length cb] 54)) w1:=hb1.mono (by simp)
 obtain ⟨x0,x1,x2,x3,z1,hB1'⟩:=box4 hB1
 clear ho1 hb1
 go_wp2_with fail
 rw [HK.out]
 refine (kind_1 e.name e.to e.body.length ab cb _).mono ?_
 rintro r w2 ⟨rfl,hb2⟩
 have hB2:=hB1.trans (hb2.mono (by omega))
 clear x0 x1 x2 x3
 obtain ⟨x0,x1,x2,x3,z2,hB2'⟩:=box4 hB2
 simp only [kV1,fv]
 clear hB1 hB1' hb2
 go_wp2_with fail
 have y2:(w2.alloc (.cells #[.func (.func 132) #[] #[],.func (.func 133) #[] #[],.func (.func 136) #[] #[],.func (.func 138) #[] #[],.string wLet] 113)).cell? ⟨w2.heap.size,2,none⟩=some (.func (.func 136) #[] #[]):=by simp
 have y4:(w2.alloc (.cells #[.func (.func 132) #[] #[],.func (.func 133) #[] #[],.func (.func 136) #[] #[],.func (.func 138) #[] #[],.string wLet] 113)).cell? ⟨w2.heap.size,4,none⟩=some (.string wLet):=by simp
 have x0':=alloc_keep x0 (.cells #[.func (.func 132) #[] #[],.func (.func 133) #[] #[],.func (.func 136) #[] #[],.func (.func 138) #[] #[],.string wLet] 113)
 have x1':=alloc_keep x1 (.cells #[.func (.func 132) #[] #[],.func (.func 133) #[] #[],.func (.func 136) #[] #[],.func (.func 138) #[] #[],.string wLet] 113)
 have x2':=alloc_keep x2 (.cells #[.func (.func 132) #[] #[],.func (.func 133) #[] #[],.func (.func 136) #[] #[],.func (.func 138) #[] #[],.string wLet] 113)
 have x3':=alloc_keep x3 (.cells #[.func (.func 132) #[] #[],.func (.func 133) #[] #[],.func (.func 136) #[] #[],.func (.func 138) #[] #[],.string wLet] 113)
 have hB3:Below w.heap.size w (w2.alloc (.cells #[.func (.func 132) #[] #[],.func (.func 133) #[] #[],.func (.func 136) #[] #[],.func (.func 138) #[] #[],.string wLet] 113)):=hB2'.alloc hB2'.size _
 have z3:w2.heap.size<(w2.alloc (.cells #[.func (.func 132) #[] #[],.func (.func 133) #[] #[],.func (.func 136) #[] #[],.func (.func 138) #[] #[],.string wLet] 113)).heap.size:=by simp
 clear x0 x1 x2 x3 hB2 hB2'
 generalize w2.alloc (.cells #[.func (.func 132) #[] #[],.func (.func 133) #[] #[],.func (.func 136) #[] #[],.func (.func 138) #[] #[],.string wLet] 113)=w3 at *
 have z4:w.heap.size<w3.heap.size:=by omega
 refine region_grow (C:=Grew w3.drew) 8 (by kernel_rfl) (by kernel_rfl) (by kernel_rfl) (Grew.refl _) ?_
 simp only [List.take_succ_cons,List.take_zero,List.drop_succ_cons,List.drop_zero]
 iterate 6
  refine g_step (fun K hK=>?_)
  refine g_still rfl ?_
  apply Exists.intro
  refine ⟨fun w' hw'=>?_,?_⟩
  ·obtain ⟨hc',hf',_⟩:=bcell hw'
   simp only [World.size_drew] at hc' hf'
   go_simp
   rfl
  go_simp
  refine hK _ _ ?_
  clear hK K
 refine g_step (fun K hK=>?_);refine g_call rfl rfl 136 ?_;apply Exists.intro;refine ⟨fun w' hw'=>?_,?_⟩;(focus go_simp;rfl);refine (text3_any _ _ L e t _ ((hv.keep hB3).keep (Below.refl _ _).drew) hn hs HG.out ((hvb.keep hB3).keep (Below.refl _ _).drew) he HT.out hok hc).mono ?_;rintro e w4 ⟨rfl,hb4⟩;refine ⟨_,rfl,hb4,?_⟩;go_simp;apply hK;clear hK K
 iterate 1
  refine g_step (fun K hK=>?_)
  refine g_still rfl ?_
  apply Exists.intro
  refine ⟨fun w' hw'=>?_,?_⟩
  ·obtain ⟨hc',hf',_⟩:=bcell hw'
   go_simp
   rfl
  go_simp
  refine hK _ _ ?_
  clear hK K
 refine g_nil ?_
 go_wp2
 go_ret2
 exact ⟨by rw [HX.out];rfl,hB3.trans ((Below.refl w3.heap.size w3).drew.trans (hb4.mono (by simp)) |>.mono (by omega))⟩
theorem implText_2 (v vb:Value) (L R:List Df) (e:En) (w:World) (hk:e.kind=2) (hv:DfsAt w v L) (hn:L.length≤1048576) (hs:∀ x ∈ L,DfOk x) (hvb:NdsAt w vb e.body) (he:EnOk e) (h:applyE L e=some R) :
  Calls Tryz.prog 36 #[v,.agg #[.int .i64 e.kind,.string e.name,.string e.to,vb]] w (TxtPost (textO L e) w):=by
 obtain ⟨a,cap,rfl⟩:∃ a cap,v=.slice a L.length cap:=by obtain ⟨a,cap,rfl,_⟩:=hv;exact ⟨a,cap,rfl⟩
 obtain ⟨ab,cb,rfl⟩:=hvb.slice
 obtain ⟨hg,_,_,_,hpt⟩:=applyE_parts h
 have HA:=Lib.hid (show (applyE L e).isSome=true by rw [h];rfl)
 have HG:=Lib.hid hg
 have HK:=Lib.hid hk
 have HX:Hid (txtE e=bDrop ++ e.name):=(show _=_ by unfold txtE;rw [if_neg (by omega),if_pos hk])
 have hzt:e.name.size≤1048576:=he.1
 have n1:¬ 9223372036854775807<wDrop.size+e.name.size:=by have h1:wDrop.size=5:=rfl;omega
 rw [textO_some h]
 clear h hg hpt hk 
 go_enter Tryz.func36,Tryz.ntmps36
 go_wp2_with fail
 refine (implApply_any _ _ L e _ (hv.keep (alloc_below _ _)) hn hs (hvb.keep (alloc_below _ _)) he).mono ?_
 rintro r w1 ⟨v1,rfl,ho1,hb1⟩
 rw [HA.out]
 have hB1:Below (w.heap.size+1) (w.alloc (.cells #[.int .i64 e.kind,.string e.name,.string e.to,.slice ab e.body.length cb] 54)) w1:=hb1.mono (by simp)
 obtain ⟨x0,x1,x2,x3,z1,hB1'⟩:=box4 hB1
 clear ho1 hb1
 go_wp2_with fail
 rw [HK.out]
 refine (kind_2 e.name e.to e.body.length ab cb _).mono ?_
 rintro r w2 ⟨rfl,hb2⟩
 have hB2:=hB1.trans (hb2.mono (by omega))
 clear x0 x1 x2 x3
 obtain ⟨x0,x1,x2,x3,z2,hB2'⟩:=box4 hB2
 simp only [kV2,fv]
 clear hB1 hB1' hb2
 go_wp2_with fail
 have y2:(w2.alloc (.cells #[.func (.func 139) #[] #[],.func (.func 140) #[] #[],.func (.func 142) #[] #[],.func (.func 143) #[] #[],.string wDrop] 113)).cell? ⟨w2.heap.size,2,none⟩=some (.func (.func 142) #[] #[]):=by simp
 have y4:(w2.alloc (.cells #[.func (.func 139) #[] #[],.func (.func 140) #[] #[],.func (.func 142) #[] #[],.func (.func 143) #[] #[],.string wDrop] 113)).cell? ⟨w2.heap.size,4,none⟩=some (.string wDrop):=by simp
 have x0':=alloc_keep x0 (.cells #[.func (.func 139) #[] #[],.func (.func 140) #[] #[],.func (.func 142) #[] #[],.func (.func 143) #[] #[],.string wDrop] 113)
 have x1':=alloc_keep x1 (.cells #[.func (.func 139) #[] #[],.func (.func 140) #[] #[],.func (.func 142) #[] #[],.func (.func 143) #[] #[],.string wDrop] 113)
 have x2':=alloc_keep x2 (.cells #[.func (.func 139) #[] #[],.func (.func 140) #[] #[],.func (.func 142) #[] #[],.func (.func 143) #[] #[],.string wDrop] 113)
 have x3':=alloc_keep x3 (.cells #[.func (.func 139) #[] #[],.func (.func 140) #[] #[],.func (.func 142) #[] #[],.func (.func 143) #[] #[],.string wDrop] 113)
 have hB3:Below w.heap.size w (w2.alloc (.cells #[.func (.func 139) #[] #[],.func (.func 140) #[] #[],.func (.func 142) #[] #[],.func (.func 143) #[] #[],.string wDrop] 113)):=hB2'.alloc hB2'.size _
 have z3:w2.heap.size<(w2.alloc (.cells #[.func (.func 139) #[] #[],.func (.func 140) #[] #[],.func (.func 142) #[] #[],.func (.func 143) #[] #[],.string wDrop] 113)).heap.size:=by simp
 clear x0 x1 x2 x3 hB2 hB2'
 generalize w2.alloc (.cells #[.func (.func 139) #[] #[],.func (.func 140) #[] #[],.func (.func 142) #[] #[],.func (.func 143) #[] #[],.string wDrop] 113)=w3 at *
 have z4:w.heap.size<w3.heap.size:=by omega
 refine region_grow (C:=Grew w3.drew) 8 (by kernel_rfl) (by kernel_rfl) (by kernel_rfl) (Grew.refl _) ?_
 simp only [List.take_succ_cons,List.take_zero,List.drop_succ_cons,List.drop_zero]
 iterate 6
  refine g_step (fun K hK=>?_)
  refine g_still rfl ?_
  apply Exists.intro
  refine ⟨fun w' hw'=>?_,?_⟩
  ·obtain ⟨hc',hf',_⟩:=bcell hw'
   simp only [World.size_drew] at hc' hf'
   go_simp
   rfl
  go_simp
  refine hK _ _ ?_
  clear hK K
 refine g_step (fun K hK=>?_);refine g_call rfl rfl 142 ?_;apply Exists.intro;refine ⟨fun w' hw'=>?_,?_⟩;(focus go_simp;rfl);refine (text7_any _ _ _ _ _ _ ab e.body.length cb rfl a L.length cap rfl).mono ?_;rintro e w4 ⟨rfl,hb4⟩;refine ⟨_,rfl,hb4,?_⟩;go_simp;apply hK;clear hK K
 iterate 1
  refine g_step (fun K hK=>?_)
  refine g_still rfl ?_
  apply Exists.intro
  refine ⟨fun w' hw'=>?_,?_⟩
  ·obtain ⟨hc',hf',_⟩:=bcell hw'
   go_simp
   rfl
  go_simp
  refine hK _ _ ?_
  clear hK K
 refine g_nil ?_
 go_wp2
 go_ret2
 exact ⟨by rw [HX.out];rfl,hB3.trans ((Below.refl w3.heap.size w3).drew.trans (hb4.mono (by simp)) |>.mono (by omega))⟩
theorem implText_3 (v vb:Value) (L R:List Df) (e:En) (w:World) (hk:e.kind=3) (hv:DfsAt w v L) (hn:L.length≤1048576) (hs:∀ x ∈ L,DfOk x) (hvb:NdsAt w vb e.body) (he:EnOk e) (h:applyE L e=some R) :
  Calls Tryz.prog 36 #[v,.agg #[.int .i64 e.kind,.string e.name,.string e.to,vb]] w (TxtPost (textO L e) w):=by
 obtain ⟨a,cap,rfl⟩:∃ a cap,v=.slice a L.length cap:=by obtain ⟨a,cap,rfl,_⟩:=hv;exact ⟨a,cap,rfl⟩
 obtain ⟨ab,cb,rfl⟩:=hvb.slice
 obtain ⟨hg,_,_,_,hpt⟩:=applyE_parts h
 have HA:=Lib.hid (show (applyE L e).isSome=true by rw [h];rfl)
 have HG:=Lib.hid hg
 have HK:=Lib.hid hk
 have HX:Hid (txtE e=bName ++ (e.name ++ bSp ++ e.to)):=(show _=_ by unfold txtE;rw [if_neg (by omega),if_neg (by omega)])
 have hzt:(e.name ++ bSp ++ e.to).size≤2097160:=by rw [bsize,bsize];have:bSp.size=1:=rfl;have:=he.1;have:=he.2.1;omega
 have n1:¬ 9223372036854775807<wName.size+(e.name.size+bSp.size+e.to.size):=by have h1:wName.size=5:=rfl;have h2:bSp.size=1:=rfl;have:=he.1;have:=he.2.1;omega
 rw [textO_some h]
 clear h hg hpt hk 
 go_enter Tryz.func36,Tryz.ntmps36
 go_wp2_with fail
 refine (implApply_any _ _ L e _ (hv.keep (alloc_below _ _)) hn hs (hvb.keep (alloc_below _ _)) he).mono ?_
 rintro r w1 ⟨v1,rfl,ho1,hb1⟩
 rw [HA.out]
 have hB1:Below (w.heap.size+1) (w.alloc (.cells #[.int .i64 e.kind,.string e.name,.string e.to,.slice ab e.body.length cb] 54)) w1:=hb1.mono (by simp)
 obtain ⟨x0,x1,x2,x3,z1,hB1'⟩:=box4 hB1
 clear ho1 hb1
 go_wp2_with fail
 rw [HK.out]
 refine (kind_3 e.name e.to e.body.length ab cb _).mono ?_
 rintro r w2 ⟨rfl,hb2⟩
 have hB2:=hB1.trans (hb2.mono (by omega))
 clear x0 x1 x2 x3
 obtain ⟨x0,x1,x2,x3,z2,hB2'⟩:=box4 hB2
 simp only [kV3,fv]
 clear hB1 hB1' hb2
 go_wp2_with fail
 have y2:(w2.alloc (.cells #[.func (.func 144) #[] #[],.func (.func 145) #[] #[],.func (.func 147) #[] #[],.func (.func 148) #[] #[],.string wName] 113)).cell? ⟨w2.heap.size,2,none⟩=some (.func (.func 147) #[] #[]):=by simp
 have y4:(w2.alloc (.cells #[.func (.func 144) #[] #[],.func (.func 145) #[] #[],.func (.func 147) #[] #[],.func (.func 148) #[] #[],.string wName] 113)).cell? ⟨w2.heap.size,4,none⟩=some (.string wName):=by simp
 have x0':=alloc_keep x0 (.cells #[.func (.func 144) #[] #[],.func (.func 145) #[] #[],.func (.func 147) #[] #[],.func (.func 148) #[] #[],.string wName] 113)
 have x1':=alloc_keep x1 (.cells #[.func (.func 144) #[] #[],.func (.func 145) #[] #[],.func (.func 147) #[] #[],.func (.func 148) #[] #[],.string wName] 113)
 have x2':=alloc_keep x2 (.cells #[.func (.func 144) #[] #[],.func (.func 145) #[] #[],.func (.func 147) #[] #[],.func (.func 148) #[] #[],.string wName] 113)
 have x3':=alloc_keep x3 (.cells #[.func (.func 144) #[] #[],.func (.func 145) #[] #[],.func (.func 147) #[] #[],.func (.func 148) #[] #[],.string wName] 113)
 have hB3:Below w.heap.size w (w2.alloc (.cells #[.func (.func 144) #[] #[],.func (.func 145) #[] #[],.func (.func 147) #[] #[],.func (.func 148) #[] #[],.string wName] 113)):=hB2'.alloc hB2'.size _
 have z3:w2.heap.size<(w2.alloc (.cells #[.func (.func 144) #[] #[],.func (.func 145) #[] #[],.func (.func 147) #[] #[],.func (.func 148) #[] #[],.string wName] 113)).heap.size:=by simp
 clear x0 x1 x2 x3 hB2 hB2'
 generalize w2.alloc (.cells #[.func (.func 144) #[] #[],.func (.func 145) #[] #[],.func (.func 147) #[] #[],.func (.func 148) #[] #[],.string wName] 113)=w3 at *
 have z4:w.heap.size<w3.heap.size:=by omega
 refine region_grow (C:=Grew w3.drew) 8 (by kernel_rfl) (by kernel_rfl) (by kernel_rfl) (Grew.refl _) ?_
 simp only [List.take_succ_cons,List.take_zero,List.drop_succ_cons,List.drop_zero]
 iterate 6
  refine g_step (fun K hK=>?_)
  refine g_still rfl ?_
  apply Exists.intro
  refine ⟨fun w' hw'=>?_,?_⟩
  ·obtain ⟨hc',hf',_⟩:=bcell hw'
   simp only [World.size_drew] at hc' hf'
   go_simp
   rfl
  go_simp
  refine hK _ _ ?_
  clear hK K
 refine g_step (fun K hK=>?_);refine g_call rfl rfl 147 ?_;apply Exists.intro;refine ⟨fun w' hw'=>?_,?_⟩;(focus go_simp;rfl);refine (text11_any _ _ _ _ _ _ ab e.body.length cb rfl a L.length cap rfl he.1 he.2.1).mono ?_;rintro e w4 ⟨rfl,hb4⟩;refine ⟨_,rfl,hb4,?_⟩;go_simp;apply hK;clear hK K
 iterate 1
  refine g_step (fun K hK=>?_)
  refine g_still rfl ?_
  apply Exists.intro
  refine ⟨fun w' hw'=>?_,?_⟩
  ·obtain ⟨hc',hf',_⟩:=bcell hw'
   go_simp
   rfl
  go_simp
  refine hK _ _ ?_
  clear hK K
 refine g_nil ?_
 go_wp2
 go_ret2
 exact ⟨by rw [HX.out];rfl,hB3.trans ((Below.refl w3.heap.size w3).drew.trans (hb4.mono (by simp)) |>.mono (by omega))⟩
theorem implText_any (v vb:Value) (L:List Df) (e:En) (w:World) (hv:DfsAt w v L) (hn:L.length≤1048576) (hs:∀ x ∈ L,DfOk x) (hvb:NdsAt w vb e.body) (he:EnOk e) :
  Calls Tryz.prog 36 #[v,.agg #[.int .i64 e.kind,.string e.name,.string e.to,vb]] w (TxtPost (textO L e) w):=by
 cases h:applyE L e with
 | none=>exact implText_no v vb L e w hv hn hs hvb he h
 | some R =>
  obtain ⟨_,_,h1,h3,_⟩:=applyE_parts h
  by_cases k1:e.kind=1
  ·exact implText_1 v vb L R e w k1 hv hn hs hvb he h
  by_cases k2:e.kind=2
  ·exact implText_2 v vb L R e w k2 hv hn hs hvb he h
  exact implText_3 v vb L R e w (by omega) hv hn hs hvb he h
end Go.Proofs.YtldhpaflmnlcaaaGreatDoor
