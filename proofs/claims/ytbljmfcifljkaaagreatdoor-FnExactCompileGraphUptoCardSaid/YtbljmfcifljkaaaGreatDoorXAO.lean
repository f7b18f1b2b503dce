/-
  The reference's crIf. Own work.
-/
import Derived.Test.YtbljmfcifljkaaaGreatDoorXAN
import Derived.Test.YtbljmfcifljkaaaGreatDoorXAB
set_option linter.all false
set_option maxRecDepth 100000
set_option maxHeartbeats 8000000
namespace Go.Proofs.YtbljmfcifljkaaaGreatDoor
open Go.RowKit
set_option maxRecDepth 100000
set_option maxHeartbeats 1000000
def ciV (b:Bool) (v z:Value):Value:=match b with
 | true=>v
 | false=>z
theorem crIf_any (p inp:Int) (a oa:Option Addr) (cap oc:Nat) (gs:List GtI) (os:List Int) (w:World) (hg:GtsAt w (.slice a gs.length cap) gs) (ho:IntsAt w (.slice oa os.length oc) os) (hn:gs.length≤1000000) (hm:os.length≤1000000) :
  Calls Tryz.prog 136 #[.int .i64 p,.agg #[.int .i64 inp,.slice a gs.length cap,.slice oa os.length oc]] w fun e w'=>e=.returned (.tuple #[ciV (circB p inp gs os) (.agg #[.int .i64 inp,.slice a gs.length cap,.slice oa os.length oc]) (.agg #[.int .i64 0,.slice none 0 0,.slice none 0 0]),.bool (circB p inp gs os)])∧Below w.heap.size w w':=by
 have hA1:=alloc_below w (.cells #[.int .i64 inp,.slice a gs.length cap,.slice oa os.length oc] 112)
 have hA2:=alloc_below (w.alloc (.cells #[.int .i64 inp,.slice a gs.length cap,.slice oa os.length oc] 112)) (.cells #[.int .i64 0,.slice none 0 0,.slice none 0 0] 112)
 have hA:=hA1.trans (hA2.mono hA1.size)
 have kC:=(Bk.new w 112 #[.int .i64 inp,.slice a gs.length cap,.slice oa os.length oc]).keep hA2
 have kZ:=Bk.new (w.alloc (.cells #[.int .i64 inp,.slice a gs.length cap,.slice oa os.length oc] 112)) 112 #[.int .i64 0,.slice none 0 0,.slice none 0 0]
 rw [World.size_alloc] at kZ
 have hzW:((w.alloc (.cells #[.int .i64 inp,.slice a gs.length cap,.slice oa os.length oc] 112)).alloc (.cells #[.int .i64 0,.slice none 0 0,.slice none 0 0] 112)).heap.size=w.heap.size+1+1:=by simp
 have HQ:=Lib.hid (crGood_any p inp _ _ gs os ((w.alloc (.cells #[.int .i64 inp,.slice a gs.length cap,.slice oa os.length oc] 112)).alloc (.cells #[.int .i64 0,.slice none 0 0,.slice none 0 0] 112)) (hg.keep hA) (ho.keep hA) hn hm)
 clear hA1 hA2 hg ho
 go_enter Tryz.func136,Tryz.ntmps136
 go_wp2_with fail
 refine HQ.out.mono ?_
 rintro e w1 ⟨rfl,hb1⟩
 have hB:=hA.trans (hb1.mono hA.size)
 obtain ⟨x0,xf,xz⟩:=(kC.keep hb1).cell
 have x1:=x0 1
 have x2:=x0 2
 have x0:=x0 0
 obtain ⟨y0,yf,yz⟩:=(kZ.keep hb1).cell
 have y1:=y0 1
 have y2:=y0 2
 have y0:=y0 0
 simp only [List.getElem?_toArray,List.getElem?_cons_zero,List.getElem?_cons_succ] at x0 x1 x2 y0 y1 y2
 clear HQ kC kZ hA hb1
 cases hcb:circB p inp gs os with
 | true =>
  have HCB:=Lib.hid hcb
  clear hcb
  go_wp2
  refine bodyPost_ret (v:=.tuple #[.agg #[.int .i64 inp,.slice a gs.length cap,.slice oa os.length oc],.bool true]) (by simp [results,Tryz.results136,go_sem,y0,y1,y2,yf,yz]) rfl ⟨by rw [HCB.out];rfl,?_⟩
  exact ((hB.setCell (by simp) _).setCell (by simp) _).setCell (by simp) _
 | false =>
  have HCB:=Lib.hid hcb
  clear hcb
  go_wp2
  refine bodyPost_ret (v:=.tuple #[.agg #[.int .i64 0,.slice none 0 0,.slice none 0 0],.bool false]) (by simp [results,Tryz.results136,go_sem,y0,y1,y2,yf,yz]) rfl ⟨by rw [HCB.out];rfl,?_⟩
  exact ((hB.setCell (by simp) _).setCell (by simp) _).setCell (by simp) _
end Go.Proofs.YtbljmfcifljkaaaGreatDoor
/-
  The circuit of a graph, plain: where a wire's value comes from. Own work.
-/
namespace Go.Proofs.YtbljmfcifljkaaaGreatDoor
set_option maxHeartbeats 1000000
theorem ord_rank (nd:List (List Int)):∀ (f:Nat) (dn:List Bool),(ordGo nd f dn).length=dn.count false →
  ∃ r:Nat → Nat,∀ i,∀ h:i<dn.length,dn[i]=false → r i<dn.count false∧∀ k ∈ nd.getD i [],dn.getD k.toNat true=true∨r k.toNat<r i
 | 0,dn,h=>⟨fun _=>0,fun i hi hd=>by
   have h0:dn.count false=0:=by rw [← h];rfl
   rw [List.count_eq_zero] at h0
   exact absurd (hd ▸ List.getElem_mem hi) h0⟩
 | f+1,dn,h=>by
  cases hn:nxt nd dn dn.length with
  | none =>
   rw [ordGo_end hn] at h
   refine ⟨fun _=>0,fun i hi hd=>?_⟩
   have h0:dn.count false=0:=by rw [← h];rfl
   rw [List.count_eq_zero] at h0
   exact absurd (hd ▸ List.getElem_mem hi) h0
  | some m =>
   rw [ordGo_step hn] at h
   obtain ⟨hm,hf⟩:=nxt_some hn
   have hd:=nxt_open hn hm
   have hc:=dn_count hm hd
   have h1:(ordGo nd f (dn.set m true)).length=(dn.set m true).count false:=by
    simp only [List.length_cons] at h;omega
   obtain ⟨r,hr⟩:=ord_rank nd f (dn.set m true) h1
   have hrd:rdyB (nd.getD m []) dn=true:=by rw [← frB_open hm hd];exact hf
   refine ⟨fun i=>if i=m then 0 else r i+1,fun i hi hdi=>?_⟩
   by_cases him:i=m
   ·subst him
    simp only [if_pos]
    refine ⟨by omega,fun k hk=>.inl ?_⟩
    exact List.all_eq_true.1 hrd k hk
   ·have h2:(dn.set m true)[i]'(by simpa using hi)=false:=by rw [List.getElem_set_ne (fun e=>him e.symm)];exact hdi
    obtain ⟨h3,h4⟩:=hr i (by simpa using hi) h2
    simp only [if_neg him]
    refine ⟨by omega,fun k hk=>?_⟩
    by_cases hkm:k.toNat=m
    ·rw [if_pos hkm];exact .inr (by omega)
    ·rw [if_neg hkm]
     rcases h4 k hk with h5|h5
     ·refine .inl ?_
      rw [List.getD_eq_getElem?_getD,List.getElem?_set_ne (fun e=>hkm e.symm),← List.getD_eq_getElem?_getD] at h5
      exact h5
     ·exact .inr (by omega)
theorem acy_rank {E:List EdI} (h:acyB E=true):∃ r:Nat → Nat,∀ i,∀ hi:i<E.length,r i<E.length∧∀ k,∀ hk:k<E.length,meetB E[k].outs E[i].ins=true → r k<r i:=by
 have h1:(ordE E).length=E.length:=by simpa [acyB] using h
 obtain ⟨r,hr⟩:=ord_rank (ndE E) (E.length+1) (List.replicate E.length false) (by rw [List.count_replicate_self];exact h1)
 refine ⟨r,fun i hi=>?_⟩
 obtain ⟨h2,h3⟩:=hr i (by simpa using hi) (by simp)
 rw [List.count_replicate_self] at h2
 refine ⟨h2,fun k hk hm=>?_⟩
 have h4:(ndE E).getD i []=ndE1 E E[i]:=by
  unfold ndE
  rw [List.getD_eq_getElem?_getD,List.getElem?_map,List.getElem?_eq_getElem hi]
  rfl
 have h5:((k:Nat):Int) ∈ (ndE E).getD i []:=by
  rw [h4]
  unfold ndE1
  refine List.mem_map.2 ⟨k,List.mem_filter.2 ⟨List.mem_range.2 hk,?_⟩,rfl⟩
  rw [List.getD_eq_getElem?_getD,List.getElem?_eq_getElem hk]
  exact hm
 rcases h3 _ h5 with h6|h6
 ·rw [Int.toNat_natCast,List.getD_eq_getElem?_getD,List.getElem?_replicate_of_lt hk] at h6
  cases h6
 ·simpa using h6
def stI (s:List Int × List GtI) (w:Int):List Int × List GtI:=(s.1.set w.toNat s.2.length,s.2 ++ [⟨1,0,0,s.2.length⟩])
def stE (s:List Int × List GtI) (e:EdI):List Int × List GtI:=match gtOf e.kind e.value with
 | some g=>(s.1.set (e.outs.getD 0 0).toNat s.2.length,s.2 ++ [g])
 | none=>s
def srcI (g:GrI) (k:Nat):List Int × List GtI:=(g.ins.take k).foldl stI (List.replicate g.wires.toNat (-1),[])
def srcE (g:GrI) (k:Nat):List Int × List GtI:=(g.edges.take k).foldl stE (srcI g g.ins.length)
def srcL (g:GrI):List Int:=(srcE g g.edges.length).1
theorem srcI_succ (g:GrI) {k:Nat} (hk:k<g.ins.length):srcI g (k+1)=stI (srcI g k) g.ins[k]:=by
 unfold srcI
 rw [List.take_succ_eq_append_getElem hk,List.foldl_append];rfl
theorem srcE_succ (g:GrI) {k:Nat} (hk:k<g.edges.length):srcE g (k+1)=stE (srcE g k) g.edges[k]:=by
 unfold srcE
 rw [List.take_succ_eq_append_getElem hk,List.foldl_append];rfl
theorem srcE_zero (g:GrI):srcE g 0=srcI g g.ins.length:=rfl
def inGs (n:Nat):List GtI:=(List.range n).map fun i:Nat=>⟨1,0,0,i⟩
theorem inGs_succ (n:Nat):inGs (n+1)=inGs n ++ [⟨1,0,0,n⟩]:=by unfold inGs;rw [List.range_succ,List.map_append];rfl
theorem inGs_len (n:Nat):(inGs n).length=n:=by simp [inGs]
theorem srcI_gs (g:GrI):∀ k,k≤g.ins.length → (srcI g k).2=inGs k
 | 0,_=>rfl
 | k+1,h=>by
  rw [srcI_succ g (by omega),inGs_succ]
  show (srcI g k).2 ++ [_]=_
  rw [srcI_gs g k (by omega),inGs_len]
theorem srcI_wl (g:GrI):∀ k,k≤g.ins.length → (srcI g k).1.length=g.wires.toNat
 | 0,_=>by simp [srcI]
 | k+1,h=>by
  rw [srcI_succ g (by omega)]
  show ((srcI g k).1.set _ _).length=_
  rw [List.length_set,srcI_wl g k (by omega)]
def isGt (e:EdI):Bool:=(gtOf e.kind e.value).isSome
def bareG (e:EdI):GtI:=(gtOf e.kind e.value).getD gt0
def gtE (E:List EdI):List EdI:=E.filter isGt
theorem stE_yes {s:List Int × List GtI} {e:EdI} (h:isGt e=true):stE s e=(s.1.set (e.outs.getD 0 0).toNat s.2.length,s.2 ++ [bareG e]):=by
 unfold isGt at h
 obtain ⟨x,hx⟩:=Option.isSome_iff_exists.1 h
 unfold stE bareG
 rw [hx];rfl
theorem stE_no {s:List Int × List GtI} {e:EdI} (h:isGt e=false):stE s e=s:=by
 unfold isGt at h
 unfold stE
 rw [Option.isSome_eq_false_iff,Option.isNone_iff_eq_none] at h
 rw [h]
theorem srcE_gs (g:GrI):∀ k,k≤g.edges.length → (srcE g k).2=inGs g.ins.length ++ (gtE (g.edges.take k)).map bareG
 | 0,_=>by rw [srcE_zero,srcI_gs g _ (Nat.le_refl _)];simp [gtE]
 | k+1,h=>by
  rw [srcE_succ g (by omega),List.take_succ_eq_append_getElem (by omega:k<g.edges.length)]
  unfold gtE
  rw [List.filter_append,List.map_append,← List.append_assoc]
  have ih:=srcE_gs g k (by omega)
  unfold gtE at ih
  cases hg:isGt (g.edges[k]'(by omega)) with
  | true=>rw [stE_yes hg,← ih,List.filter_cons_of_pos hg];rfl
  | false=>rw [stE_no hg,← ih,List.filter_cons_of_neg (by rw [hg];simp)];simp
theorem srcE_wl (g:GrI):∀ k,k≤g.edges.length → (srcE g k).1.length=g.wires.toNat
 | 0,_=>by rw [srcE_zero];exact srcI_wl g _ (Nat.le_refl _)
 | k+1,h=>by
  rw [srcE_succ g (by omega)]
  have ih:=srcE_wl g k (by omega)
  cases hg:isGt (g.edges[k]'(by omega)) with
  | true=>rw [stE_yes hg,List.length_set];exact ih
  | false=>rw [stE_no hg];exact ih
theorem srcL_len (g:GrI):(srcL g).length=g.wires.toNat:=srcE_wl g _ (Nat.le_refl _)
def nnA (l:List Int) (i:Nat):Prop:=0≤l.getD i (-1)
theorem nn_set {l:List Int} {i j:Nat} {v:Int} (hv:0≤v) (h:nnA l i):nnA (l.set j v) i:=by
 unfold nnA at h ⊢
 rw [List.getD_eq_getElem?_getD,List.getElem?_set]
 split
 ·rename_i e
  split
  ·exact hv
  ·subst e
   rename_i hlt
   rw [List.getD_eq_getElem?_getD,List.getElem?_eq_none (by omega)] at h
   exact h
 ·rw [← List.getD_eq_getElem?_getD];exact h
theorem nn_at {l:List Int} {i:Nat} {v:Int} (hv:0≤v) (h:i<l.length):nnA (l.set i v) i:=by
 unfold nnA
 rw [List.getD_eq_getElem?_getD,List.getElem?_set_self h]
 exact hv
theorem nn_back {l:List Int} {i j:Nat} {v:Int} (h:nnA (l.set j v) i):nnA l i∨i=j:=by
 by_cases e:i=j
 ·exact .inr e
 ·refine .inl ?_
  unfold nnA at h ⊢
  rw [List.getD_eq_getElem?_getD,List.getElem?_set_ne (fun x=>e x.symm),← List.getD_eq_getElem?_getD] at h
  exact h
theorem nn_keepE (g:GrI) (i:Nat):∀ k m,k+m≤g.edges.length → nnA (srcE g k).1 i → nnA (srcE g (k+m)).1 i
 | k,0,_,h=>h
 | k,m+1,hl,h=>by
  have ih:=nn_keepE g i k m (by omega) h
  show nnA (srcE g (k+m+1)).1 i
  rw [srcE_succ g (by omega)]
  cases hg:isGt (g.edges[k+m]'(by omega)) with
  | true=>rw [stE_yes hg];exact nn_set (Int.natCast_nonneg _) ih
  | false=>rw [stE_no hg];exact ih
theorem nn_keepI (g:GrI) (i:Nat):∀ k m,k+m≤g.ins.length → nnA (srcI g k).1 i → nnA (srcI g (k+m)).1 i
 | k,0,_,h=>h
 | k,m+1,hl,h=>by
  have ih:=nn_keepI g i k m (by omega) h
  show nnA (srcI g (k+m+1)).1 i
  rw [srcI_succ g (by omega)]
  exact nn_set (Int.natCast_nonneg _) ih
theorem src_ins (g:GrI) {w:Int} (hw:w ∈ g.ins) (hr:w.toNat<g.wires.toNat):nnA (srcL g) w.toNat:=by
 obtain ⟨k,hk,rfl⟩:=List.mem_iff_getElem.1 hw
 have h1:nnA (srcI g (k+1)).1 (g.ins[k]).toNat:=by
  rw [srcI_succ g hk]
  exact nn_at (Int.natCast_nonneg _) (by rw [srcI_wl g _ (by omega)];exact hr)
 have h2:=nn_keepI g _ (k+1) (g.ins.length - (k+1)) (by omega) h1
 rw [show k+1+(g.ins.length - (k+1))=g.ins.length by omega,← srcE_zero] at h2
 have h3:=nn_keepE g _ 0 g.edges.length (by omega) h2
 rw [Nat.zero_add] at h3
 exact h3
theorem src_gate (g:GrI) {i:Nat} (hi:i<g.edges.length) (hg:isGt g.edges[i]=true) (hr:(g.edges[i].outs.getD 0 0).toNat<g.wires.toNat):nnA (srcL g) (g.edges[i].outs.getD 0 0).toNat:=by
 have h1:nnA (srcE g (i+1)).1 (g.edges[i].outs.getD 0 0).toNat:=by
  rw [srcE_succ g hi,stE_yes hg]
  exact nn_at (Int.natCast_nonneg _) (by rw [srcE_wl g _ (by omega)];exact hr)
 have h2:=nn_keepE g _ (i+1) (g.edges.length - (i+1)) (by omega) h1
 rw [show i+1+(g.edges.length - (i+1))=g.edges.length by omega] at h2
 exact h2
theorem srcI_only (g:GrI) (i:Nat):∀ k,k≤g.ins.length → nnA (srcI g k).1 i → ∃ w ∈ g.ins,w.toNat=i
 | 0,_,h=>by
  unfold nnA srcI at h
  simp only [List.take_zero,List.foldl_nil,List.getD_eq_getElem?_getD,List.getElem?_replicate] at h
  split at h <;> simp at h
 | k+1,hk,h=>by
  rw [srcI_succ g (by omega)] at h
  rcases nn_back h with h|h
  ·exact srcI_only g i k (by omega) h
  ·exact ⟨_,List.getElem_mem (by omega),h.symm⟩
theorem srcE_only (g:GrI) (i:Nat):∀ k,k≤g.edges.length → nnA (srcE g k).1 i → (∃ w ∈ g.ins,w.toNat=i)∨∃ j,∃ h:j<g.edges.length,isGt g.edges[j]=true∧(g.edges[j].outs.getD 0 0).toNat=i
 | 0,_,h=>.inl (srcI_only g i _ (Nat.le_refl _) h)
 | k+1,hk,h=>by
  rw [srcE_succ g (by omega)] at h
  cases hg:isGt (g.edges[k]'(by omega)) with
  | true =>
   rw [stE_yes hg] at h
   rcases nn_back h with h|h
   ·exact srcE_only g i k (by omega) h
   ·exact .inr ⟨k,by omega,hg,h.symm⟩
  | false =>
   rw [stE_no hg] at h
   exact srcE_only g i k (by omega) h
theorem src_only (g:GrI) {i:Nat} (h:nnA (srcL g) i):(∃ w ∈ g.ins,w.toNat=i)∨∃ j,∃ h:j<g.edges.length,isGt g.edges[j]=true∧(g.edges[j].outs.getD 0 0).toNat=i:=srcE_only g i _ (Nat.le_refl _) h
def befE (E:List EdI) (w:Int):Option EdI:=E.find? fun e=>decide (w ∈ e.outs)
theorem bef_eq:∀ {E:List EdI} {i:Nat} (hn:(E.flatMap EdI.outs).Nodup) (hi:i<E.length) {w:Int} (hw:w ∈ E[i].outs),befE E w=some E[i]
 | e :: E,i,hn,hi,w,hw=>by
  rw [List.flatMap_cons,List.nodup_append] at hn
  unfold befE
  cases i with
  | zero=>rw [List.find?_cons_of_pos (by simpa using hw)];rfl
  | succ i =>
   have h1:w ∈ E.flatMap EdI.outs:=List.mem_flatMap.2 ⟨_,List.getElem_mem (by simpa using hi),hw⟩
   have h2:¬ w ∈ e.outs:=fun h=>hn.2.2 _ h _ h1 rfl
   rw [List.find?_cons_of_neg (by simpa using h2)]
   exact bef_eq hn.2.1 (by simpa using hi) hw
def in0 (e:EdI):Int:=e.ins.getD 0 0
def chase (S:List Int) (E:List EdI):Nat → Int → Int
 | 0,_=>-1
 | k+1,w=>if 0≤S.getD w.toNat (-1) then S.getD w.toNat (-1) else match befE E w with
  | some e=>chase S E k (in0 e)
  | none=>-1
theorem chase_here {S:List Int} {E:List EdI} {w:Int} (h:0≤S.getD w.toNat (-1)) (k:Nat):chase S E (k+1) w=S.getD w.toNat (-1):=by
 show (if 0≤S.getD w.toNat (-1) then S.getD w.toNat (-1) else _)=_
 rw [if_pos h]
theorem chase_go {S:List Int} {E:List EdI} {w:Int} {e:EdI} (h:¬ 0≤S.getD w.toNat (-1)) (hb:befE E w=some e) (k:Nat):chase S E (k+1) w=chase S E k (in0 e):=by
 show (if 0≤S.getD w.toNat (-1) then S.getD w.toNat (-1) else match befE E w with|some e=>chase S E k (in0 e)|none=>-1)=_
 rw [if_neg h,hb]
theorem chase_none {S:List Int} {E:List EdI} {w:Int} (h:¬ 0≤S.getD w.toNat (-1)) (hb:befE E w=none) (k:Nat):chase S E (k+1) w=-1:=by
 show (if 0≤S.getD w.toNat (-1) then S.getD w.toNat (-1) else match befE E w with|some e=>chase S E k (in0 e)|none=>-1)=_
 rw [if_neg h,hb]
theorem chase_up {S:List Int} {E:List EdI}:∀ (k:Nat) (w:Int),0≤chase S E k w → chase S E (k+1) w=chase S E k w
 | 0,w,h=>by simp [chase] at h
 | k+1,w,h=>by
  by_cases h0:0≤S.getD w.toNat (-1)
  ·rw [chase_here h0,chase_here h0]
  ·cases hb:befE E w with
   | none=>rw [chase_none h0 hb] at h;simp at h
   | some e =>
    rw [chase_go h0 hb] at h ⊢
    rw [chase_go h0 hb]
    exact chase_up k _ h
theorem chase_le {S:List Int} {E:List EdI} {k:Nat} {w:Int} (h:0≤chase S E k w):∀ m,chase S E (k+m) w=chase S E k w
 | 0=>rfl
 | m+1=>by
  have ih:=chase_le h m
  have:=chase_up (k+m) w (by rw [ih];exact h)
  rw [← ih,← this];rfl
theorem chase_same {S:List Int} {E:List EdI} {k m:Nat} {w:Int} (h:0≤chase S E k w) (h2:0≤chase S E m w):chase S E k w=chase S E m w:=by
 rcases Nat.le_total k m with h3|h3
 ·have:=chase_le h (m - k)
  rw [show k+(m - k)=m by omega] at this
  exact this.symm
 ·have:=chase_le h2 (k - m)
  rw [show m+(k - m)=k by omega] at this
  exact this
def chaseN (S:List Int) (E:List EdI):Nat → Int → Nat
 | 0,_=>0
 | k+1,w=>if 0≤S.getD w.toNat (-1) then 0 else match befE E w with
  | some e=>chaseN S E k (in0 e)+1
  | none=>0
theorem chaseN_up {S:List Int} {E:List EdI}:∀ (k:Nat) (w:Int),0≤chase S E k w → chaseN S E (k+1) w=chaseN S E k w
 | 0,w,h=>by simp [chase] at h
 | k+1,w,h=>by
  by_cases h0:0≤S.getD w.toNat (-1)
  ·simp only [chaseN,if_pos h0]
  ·cases hb:befE E w with
   | none=>rw [chase_none h0 hb] at h;simp at h
   | some e =>
    rw [chase_go h0 hb] at h
    have ih:=chaseN_up k _ h
    show (if _ then _ else match befE E w with|some e=>chaseN S E (k+1) (in0 e)+1|none=>0)=(if _ then _ else match befE E w with|some e=>chaseN S E k (in0 e)+1|none=>0)
    rw [if_neg h0,if_neg h0,hb]
    show chaseN S E (k+1) (in0 e)+1=chaseN S E k (in0 e)+1
    rw [ih]
theorem chaseN_go {S:List Int} {E:List EdI} {w:Int} {e:EdI} {k:Nat} (h:¬ 0≤S.getD w.toNat (-1)) (hb:befE E w=some e) (hc:0≤chase S E k w):chaseN S E k w=chaseN S E k (in0 e)+1:=by
 cases k with
 | zero=>simp [chase] at hc
 | succ k =>
  rw [chase_go h hb] at hc
  rw [chaseN_up k _ hc]
  show (if _ then _ else match befE E w with|some e=>chaseN S E k (in0 e)+1|none=>0)=_
  rw [if_neg h,hb]
end Go.Proofs.YtbljmfcifljkaaaGreatDoor
