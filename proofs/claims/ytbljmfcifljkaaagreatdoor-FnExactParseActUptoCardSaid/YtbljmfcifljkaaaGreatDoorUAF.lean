/-
  A region that draws its order, many calls in it: each call is shown to wait for the one ahead of it. Own work; printed by wip/parA4.py out of Acts.
-/
import Derived.Test.YtbljmfcifljkaaaGreatDoorUB
import Derived.Test.YtbljmfcifljkaaaGreatDoorUTM
import Derived.Test.YtbljmfcifljkaaaGreatDoorURU
import Derived.Test.YtbljmfcifljkaaaGreatDoorUMI
import Derived.Test.YtbljmfcifljkaaaGreatDoorUC
set_option linter.all false
set_option maxRecDepth 100000
set_option maxHeartbeats 8000000
namespace Go.Proofs.YtbljmfcifljkaaaGreatDoor
open Go.RowKit
set_option maxRecDepth 100000
section
variable {P:Program} {ops:Array Oper} {C:World → Prop} {N:Nat} {Q:Exit → Act → World → Prop}
inductive NeedP (ops:Array Oper):Nat → Nat → Prop
 | one {j i:Nat}:Region.waitsFor .any ops j i=true → NeedP ops j i
 | more {j p i:Nat}:Region.waitsFor .any ops j p=true → NeedP ops p i → NeedP ops j i
theorem NeedP.trans {ops:Array Oper} {a b c:Nat} (h:NeedP ops a b) (k:NeedP ops b c):NeedP ops a c:=by
 induction h with
 | one h=>exact .more h k
 | more h _ ih=>exact .more h (ih k)
theorem needP_of:∀ (f j i:Nat),needsB ops f j i=true → NeedP ops j i
 | 0,_,_,h=>by cases h
 | f+1,j,i,h=>by
  simp only [needsB,Bool.or_eq_true,List.any_eq_true,Bool.and_eq_true] at h
  rcases h with h|⟨p,_,h1,h2⟩
  ·exact .one h
  ·exact .more h1 (needP_of f p i h2)
theorem need_listed {listed:Array Bool} (hc:Closed ops listed) {j i:Nat} (h:NeedP ops j i):∀ oj:Oper,ops[j]?=some oj → (∀ e ∈ oj.after,Region.binds .any e=true → listed.getD e.on false=true) → listed.getD i false=true:=by
 have step:∀ (j p:Nat) (oj:Oper),ops[j]?=some oj → (∀ e ∈ oj.after,Region.binds .any e=true → listed.getD e.on false=true) → Region.waitsFor .any ops j p=true → listed.getD p false=true:=fun j p oj hj hall hp=>by
  obtain ⟨oj',hj',e,he,hb,hon⟩:=Region.waitsFor_spec hp
  obtain rfl:oj=oj':=Option.some.inj (hj.symm.trans hj')
  rw [← hon];exact hall e he hb
 induction h with
 | one h=>exact fun oj hj hall=>step _ _ oj hj hall h
 | more h h2 ih =>
  rename_i j p i
  intro oj hj hall
  have hp:=step j p oj hj hall h
  cases hop:ops[p]? with
  | none =>
   have no:∀ x,Region.waitsFor .any ops p x=false:=fun x=>by unfold Region.waitsFor;rw [hop]
   cases h2 with
   | one h3=>rw [no] at h3;cases h3
   | more h3 _=>rw [no] at h3;cases h3
  | some op=>exact ih op hop (hc p op hop hp)
def isActB (ops:Array Oper) (i:Nat):Bool:=match ops[i]? with
 | some o=>decide (opKind o=.act)
 | none=>false
def isStillB (ops:Array Oper) (i:Nat):Bool:=match ops[i]? with
 | some o=>decide (opKind o=.still)
 | none=>false
def PairP (ops:Array Oper) (i j:Nat):Prop:=i ≠ j∧Region.waitsFor .any ops i j=false∧(NeedP ops j i∨∀ oi oj,ops[i]?=some oi → ops[j]?=some oj → oi.apart ops oj=true∧(opKind oj ≠ .act∨opKind oi=.still))
def lineB (ops:Array Oper) (f:Nat):List Nat → Bool
 | []=>true
 | i :: l=>(isStillB ops i || (match l.find? (isActB ops) with
   | none=>true
   | some a=>needsB ops f a i)) && lineB ops f l
theorem line_spec {f:Nat}:∀ l:List Nat,lineB ops f l=true → l.Pairwise fun i j=>isActB ops j=true → isStillB ops i=false → NeedP ops j i
 | [],_=>List.Pairwise.nil
 | i :: l,h=>by
  simp only [lineB,Bool.and_eq_true,Bool.or_eq_true] at h
  have ih:=line_spec l h.2
  refine List.Pairwise.cons (fun j hj hja his=>?_) ih
  have h1:=h.1.resolve_left (by rw [his];simp)
  cases hf:l.find? (isActB ops) with
  | none=>exact absurd hja (by have:=List.find?_eq_none.1 hf j hj;simpa using this)
  | some a =>
   rw [hf] at h1
   have hai:=needP_of f a i h1
   obtain ⟨haa,pre,post,hl,hno⟩:=List.find?_eq_some_iff_append.1 hf
   subst hl
   rcases List.mem_append.1 hj with hj|hj
   ·have:=hno j hj;rw [hja] at this;cases this
   ·rcases List.mem_cons.1 hj with rfl|hj
    ·exact hai
    ·have hst:isStillB ops a=false:=by
      unfold isActB at haa
      unfold isStillB
      cases ho:ops[a]? with
      | none=>rfl
      | some o =>
       rw [ho] at haa
       simp only [decide_eq_true_eq] at haa
       simp [haa]
     exact ((List.pairwise_cons.1 (List.pairwise_append.1 ih).2.1).1 j hj hja hst).trans hai
def pair4B (ops:Array Oper) (i j:Nat):Bool :=
 decide (i ≠ j) && !Region.waitsFor .any ops i j &&
  ((isActB ops j && !isStillB ops i) || Region.waitsFor .any ops j i || (match ops[i]?,ops[j]? with
   | some oi,some oj=>oi.apart ops oj && (decide (opKind oj ≠ .act) || decide (opKind oi=.still))
   | _,_=>false))
def pairs4B (ops:Array Oper):List Nat → Bool
 | []=>true
 | i :: l=>l.all (pair4B ops i) && pairs4B ops l
theorem pairs4_list:∀ l:List Nat,pairs4B ops l=true → l.Pairwise fun i j=>pair4B ops i j=true
 | [],_=>List.Pairwise.nil
 | i :: l,h=>by
  simp only [pairs4B,Bool.and_eq_true] at h
  exact List.Pairwise.cons (fun j hj=>List.all_eq_true.1 h.1 j hj) (pairs4_list l h.2)
theorem pairs4_spec {f:Nat} (l:List Nat) (h:pairs4B ops l=true∧lineB ops f l=true):l.Pairwise (PairP ops):=by
 have h1:=pairs4_list l h.1
 have h2:=line_spec l h.2
 refine (h1.and h2).imp fun {i j} ⟨h3,h4⟩=>?_
 simp only [pair4B,Bool.and_eq_true,decide_eq_true_eq,Bool.not_eq_true',Bool.or_eq_true] at h3
 obtain ⟨⟨h5,h6⟩,h7⟩:=h3
 refine ⟨h5,h6,?_⟩
 rcases h7 with (⟨h8,h9⟩|h8)|h8
 ·exact .inl (h4 h8 h9)
 ·exact .inl (.one h8)
 ·refine .inr fun oi oj hi hj=>?_
  rw [hi,hj] at h8
  simpa using h8
def acts4B (ops:Array Oper) (f:Nat) (ord:List Nat):Bool:=Region.noSelect ops && (pairs4B ops ord && lineB ops f ord) && soundB ops ord && decide (ord.length=ops.size)
theorem WX_anyP (hsel:NoSel ops) (hG:Grows C N) (hrange:∀ (j:Nat) (oj:Oper),ops[j]?=some oj → ∀ e ∈ oj.after,Region.binds .any e=true → e.on<ops.size) (hself:∀ j,j<ops.size → Region.waitsFor .any ops j j=false) :
  ∀ (n:Nat) (l:List Nat) (listed:Array Bool) (bs:Nat → Prop) (a:Act) (w:World),l.length=n → (l.Pairwise fun i j=>PairP ops i j) → (∀ i ∈ l,i<ops.size) → listed.size=ops.size →
   (∀ k,k<ops.size → (listed.getD k true=false ↔ k ∈ l)) → Closed ops listed → C w → (∀ k,bs k → k<w.heap.size) → WX P ops C N Q l bs a w → wpAny P .any ops Q n listed a w:=by
 intro n
 induction n with
 | zero =>
  intro l listed bs a w hn _ _ hsz hun _ _ _ h
  have hl:l=[]:=List.eq_nil_of_length_eq_zero hn
  subst hl
  refine ⟨List.eq_nil_iff_forall_not_mem.2 fun j hj=>?_,h⟩
  obtain ⟨h1,o,ho,_⟩:=mem_ready.1 hj
  have:=(hun j (Array.getElem?_eq_some_iff.1 ho).1).1 h1
  cases this
 | succ n ih =>
  intro l listed bs a w hn hp hin hsz hun hcl hC hbs h
  refine ⟨fun h0=>?_,fun j hj=>?_⟩
  ·-- the first operation of the walk is ready
   match l,hn with
   | i :: l,_ =>
    have hi:=hin i (List.mem_cons_self ..)
    have hi':ops[i]?=some ops[i]:=Array.getElem?_eq_getElem _
    have hr:i ∈ Region.ready .any ops listed:=by
     refine mem_ready.2 ⟨(hun i hi).2 (List.mem_cons_self ..),_,hi',fun e he hb=>?_⟩
     have hes:=hrange i _ hi' e he hb
     have hw:Region.waitsFor .any ops i e.on=true:=by
      unfold Region.waitsFor;rw [hi']
      exact Array.any_eq_true'.2 ⟨e,he,by simp [hb]⟩
     have hnm:e.on ∉ i :: l:=by
      intro hm
      rcases List.mem_cons.1 hm with hm|hm
      ·rw [hm,hself i hi] at hw;cases hw
      ·have:=(List.pairwise_cons.1 hp).1 e.on hm
       exact absurd this.2.1 (by simp [hw])
     have hes':e.on<listed.size:=by omega
     cases hg:listed.getD e.on false with
     | true=>rfl
     | false=>exact absurd ((hun e.on hes).1 (getD_in hes' hg)) hnm
    rw [h0] at hr
    cases hr
  ·obtain ⟨hjun,oj,hoj,hall⟩:=mem_ready.1 hj
   have hjs:j<ops.size:=(Array.getElem?_eq_some_iff.1 hoj).1
   have hjl:=(hun j hjs).1 hjun
   obtain ⟨s,t,rfl⟩:=List.append_of_mem hjl
   have hsl:s.length+t.length=n:=by simp at hn;omega
   have hpair:∀ i ∈ s,PairP ops i j:=fun i hi=>(List.pairwise_append.1 hp).2.2 i hi j (List.mem_cons_self ..)
   have hins:∀ i ∈ s,i<ops.size:=fun i hi=>hin i (List.mem_append_left _ hi)
   have hno:∀ i ∈ s,¬ NeedP ops j i:=fun i hi hnb=>by
    have h1:=need_listed hcl hnb oj hoj hall
    have h2:=(hun i (hins i hi)).2 (List.mem_append_left _ hi)
    rw [getD_both h2] at h1
    cases h1
   have hsp:∀ i ∈ s,∀ oi,ops[i]?=some oi → oi.apart ops oj=true∧(opKind oj ≠ .act∨opKind oi=.still):=fun i hi oi hoi=>by
    have h1:=((hpair i hi).2.2.resolve_left (hno i hi)) oi oj hoi hoj
    exact h1
   have hfr:∀ i ∈ s,Free ops i j:=fun i hi oi oj' hoi hoj'=>by
    obtain rfl:oj=oj':=Option.some.inj (hoj.symm.trans hoj')
    exact (hsp i hi oi hoi).1
   have hnd:j ∉ s ++ t:=by
    intro hm
    rcases List.mem_append.1 hm with hm|hm
    ·exact (hpair j hm).1 rfl
    ·exact ((List.pairwise_cons.1 (List.pairwise_append.1 hp).2.1).1 j hm).1 rfl
   have hjsz:j<listed.size:=by omega
   have next:∀ bs' a' w',C w' → (∀ k,bs' k → k<w'.heap.size) → WX P ops C N Q (s ++ t) bs' a' w' → wpAny P .any ops Q n (listed.setIfInBounds j true) a' w':=fun bs' a' w' hC' hb' h'=>by
    refine ih (s ++ t) _ bs' a' w' (by simp;omega) ?_ ?_ (by simpa using hsz) (fun k hk=>?_) ?_ hC' hb' h'
    ·refine List.Pairwise.sublist ?_ hp
     exact List.Sublist.append_left (List.sublist_cons_self j t) s
    ·intro i hi;exact hin i (by rcases List.mem_append.1 hi with h|h;exact List.mem_append_left _ h;exact List.mem_append_right _ (List.mem_cons_of_mem _ h))
    ·rw [getD_set_iff hjsz,hun k hk]
     constructor
     ·rintro ⟨h1,h2⟩
      rcases List.mem_append.1 h1 with h1|h1
      ·exact List.mem_append_left _ h1
      ·rcases List.mem_cons.1 h1 with h1|h1
       ·exact absurd h1 h2
       ·exact List.mem_append_right _ h1
     ·intro h1
      refine ⟨?_,fun e=>hnd (e ▸ h1)⟩
      rcases List.mem_append.1 h1 with h1|h1
      ·exact List.mem_append_left _ h1
      ·exact List.mem_append_right _ (List.mem_cons_of_mem _ h1)
    ·intro k ok hok hlk e he hb
     by_cases hkj:j=k
     ·subst hkj
      obtain rfl:ok=oj:=Option.some.inj (hok.symm.trans hoj)
      exact getD_set_true (hall e he hb)
     ·rw [getD_set_ne false hkj] at hlk
      exact getD_set_true (hcl k ok hok hlk e he hb)
   unfold wpOp
   simp only [hoj]
   by_cases hw:Region.wanted oj (yielded ops a.tmps)=true
   ·rw [if_pos hw]
    left
    cases hk:opKind oj with
    | still =>
     obtain ⟨a',bs',w',hC',e1,e2,h1⟩:=WX_reach hsel hG hoj t s bs a w hins hfr hC hbs h
     have h2:=h1 oj hoj
     unfold atX stepX at h2
     rw [if_pos (by rw [e2];exact hw)] at h2
     simp only [hk] at h2
     obtain ⟨v,h3,_⟩:=h2
     have hy:YieldsC P ops C oj v a:=.inl ⟨hw,fun w1 hw1=>by have:=h3 w1 hw1;unfold stillAt at this ⊢;rw [← e1];exact this⟩
     have h4:=WX_still hsel hG hoj t s bs a w hfr hC h (.inl hk) hy
     refine wp_of_gOp (C:=C) (K:=fun a' w'=>WX P ops C N Q (s ++ t) bs a' w'∧w'=w) hC (fun a' w' hC' h5=>next bs a' w' hC' (by rw [h5.2];exact hbs) h5.1) (.inl ⟨v,(hy.resolve_right fun hh=>by rw [hh.1] at hw;cases hw).2,h4,rfl⟩)
    | act =>
     have h1:=WX_act hsel hoj hk t s bs a w hins hfr (fun i hi oi hoi=>((hsp i hi oi hoi).2).resolve_left (by simp [hk])) hC h hw
     exact h1.wp fun v w2 ⟨c1,c2,bs',c5,c6⟩=>next bs' _ w2 c1 (fun k hk'=>by rcases c5 k hk' with h5|h5;(have:=hbs k h5;omega);exact h5.2) c6
    | make =>
     obtain ⟨a',bs',w',hC',e1,e2,h1⟩:=WX_reach hsel hG hoj t s bs a w hins hfr hC hbs h
     have h2:=h1 oj hoj
     unfold atX stepX at h2
     rw [if_pos (by rw [e2];exact hw)] at h2
     simp only [hk] at h2
     obtain ⟨mk,ob,h3,_⟩:=h2
     have h4:=h3 w hC
     rw [e1] at h4
     have hB:=hG.base w hC
     have h5:=WX_resolve hsel hoj hk hC rfl t s bs a w (w.alloc ob) hfr h hw h4 (alloc_below w ob) (heap_alloc_new w ob) hB (fun hh=>by have:=hbs _ hh;omega)
     unfold Oper.wp
     rw [h4,Oper.upon_value]
     exact next _ _ _ (hG.grow _ _ hC (alloc_below w ob)) (fun k hk'=>by rcases hk' with rfl|hk';simp;(have:=hbs k hk';simp;omega)) h5
   ·rw [if_neg hw]
    have hy:YieldsC P ops C oj undef a:=.inr ⟨by simpa using hw,rfl⟩
    exact next bs _ w hC hbs (WX_still hsel hG hoj t s bs a w hfr hC h (.inr (by simpa using hw)) hy)
theorem region_acts4 {id:Nat} {a:Act} {w:World} {l:List Oper} (f:Nat) (ord:List Nat) (hm:P.follows .mixedOrders=true) (hB:acts4B l.toArray f ord=true)
  (hG:Grows C N) (hC:C w.drew) (h:WX P l.toArray C N Q ord (fun _=>False) a w.drew):(Code.region id l.toArray true).wp P Q a w:=by
 simp only [acts4B,Bool.and_eq_true,decide_eq_true_eq] at hB
 obtain ⟨⟨⟨hsel,hpairs⟩,hsound⟩,hlen⟩:=hB
 simp only [soundB,Bool.and_eq_true,List.all_eq_true,decide_eq_true_eq,Bool.not_eq_true',List.mem_range,List.contains_iff_mem] at hsound
 obtain ⟨⟨h1,h2⟩,h3⟩:=hsound
 refine wp_region_any hm ?_
 rw [← hlen]
 refine WX_anyP (Region.noSelect_spec hsel) hG (fun j oj hj e he hb=>?_) (fun j hj=>(h1 j (h2 j hj)).2) ord.length ord _ (fun _=>False) a _ rfl (pairs4_spec ord hpairs) (fun i hi=>(h1 i hi).1) (by simpa using hlen) (fun k hk=>?_) (fun j oj _ hl=>?_) hC (fun k hk=>hk.elim) h
 ·have h4:=Array.all_eq_true'.1 h3 oj (Array.mem_of_getElem? hj)
  have h5:=Array.all_eq_true'.1 h4 e he
  simpa [hb] using h5
 ·exact ⟨fun _=>h2 k hk,fun _=>by rw [getD_in (by simpa [hlen] using hk) (getD_replicate_false _ _)]⟩
 ·rw [getD_replicate_false] at hl;cases hl
end
end Go.Proofs.YtbljmfcifljkaaaGreatDoor
/-
  The reference's small terms, as trees; rows of rules whose terms are shared. Own work.
-/
namespace Go.Proofs.YtbljmfcifljkaaaGreatDoor
open Go.RowKit
set_option maxRecDepth 100000
set_option maxHeartbeats 4000000
theorem le_rfl' {n:Nat} (h:Nat.ble n 1000=true):n≤1000:=Nat.le_of_ble_eq_true h
theorem axOneT (k:Int) (w:World):Calls Tryz.prog 83 #[.int .i64 k] w (TmcP (lf k 0).nodes w):=axOne_any k w
theorem axScaleT (k:Int) (w:World):Calls Tryz.prog 87 #[.int .i64 k] w (TmcP (lf 7 k).nodes w):=axScale_any k w
theorem tmIdT (k:Int) (w:World):Calls Tryz.prog 84 #[.int .i64 k] w (TmcP (lf 1 k).nodes w):=tmIdC_any k w
theorem tmOneT (j k:Int) (w:World):Calls Tryz.prog 88 #[.int .i64 j,.int .i64 k] w (TmcP (lf j k).nodes w):=tmOneC_any j k w
theorem tms2 {w:World} {g:Nat} {v1 v2:Value} {n1 n2:List Nd} (c0:w.cell? ⟨g,0,none⟩=some v1) (c1:w.cell? ⟨g,1,none⟩=some v2) (h1:NdsAt w v1 n1) (h2:NdsAt w v2 n2):TmsAt w g ((v1,n1) :: [(v2,n2)]):=by
 intro j hj
 match j,hj with
 | 0,_=>exact ⟨c0,h1⟩
 | 1,_=>exact ⟨c1,h2⟩
theorem tms3 {w:World} {g:Nat} {v1 v2 v3:Value} {n1 n2 n3:List Nd} (c0:w.cell? ⟨g,0,none⟩=some v1) (c1:w.cell? ⟨g,1,none⟩=some v2) (c2:w.cell? ⟨g,2,none⟩=some v3) (h1:NdsAt w v1 n1) (h2:NdsAt w v2 n2) (h3:NdsAt w v3 n3):TmsAt w g ((v1,n1) :: [(v2,n2),(v3,n3)]):=by
 intro j hj
 match j,hj with
 | 0,_=>exact ⟨c0,h1⟩
 | 1,_=>exact ⟨c1,h2⟩
 | 2,_=>exact ⟨c2,h3⟩
theorem made_at {w w':World} {b:Nat} {ob:Obj} (h:w.heap[b]?=some ob) (hb:Below w.heap.size w w'):w'.heap[b]?=some ob:=(hb.block b (Array.getElem?_eq_some_iff.1 h).1).trans h
theorem row2 {w:World} {g B:Nat} {v1 v2:Value} {n1 n2:List Nd} (h:w.heap[g]?=some (.cells #[v1,v2] 30)) (h1:NdsOwn w B v1 n1) (h2:NdsOwn w B v2 n2):TmsAt w g ((v1,n1) :: [(v2,n2)]) :=
 tms2 ((made_cell h).1 0) ((made_cell h).1 1) h1.at h2.at
theorem row3 {w:World} {g B:Nat} {v1 v2 v3:Value} {n1 n2 n3:List Nd} (h:w.heap[g]?=some (.cells #[v1,v2,v3] 30)) (h1:NdsOwn w B v1 n1) (h2:NdsOwn w B v2 n2) (h3:NdsOwn w B v3 n3):TmsAt w g ((v1,n1) :: [(v2,n2),(v3,n3)]) :=
 tms3 ((made_cell h).1 0) ((made_cell h).1 1) ((made_cell h).1 2) h1.at h2.at h3.at
theorem gSeq2 {w:World} {g B:Nat} {v1 v2:Value} {A C:Tr} (h:w.heap[g]?=some (.cells #[v1,v2] 30)) (h1:NdsOwn w B v1 A.nodes) (h2:NdsOwn w B v2 C.nodes) (l1:Nat.ble A.nodes.length 1000=true) (l2:Nat.ble C.nodes.length 1000=true) :
  Calls Tryz.prog 85 #[.slice (some ⟨g,0,none⟩) 2 2] w (TmcP (Tr.seq A C).nodes w) :=
 axSeq_any _ 2 _ _ _ _ (row2 h h1 h2) rfl (by simp) (by simp) (le_rfl' l1) (by simp;exact le_rfl' l2)
theorem gPar2 {w:World} {g B:Nat} {v1 v2:Value} {A C:Tr} (h:w.heap[g]?=some (.cells #[v1,v2] 30)) (h1:NdsOwn w B v1 A.nodes) (h2:NdsOwn w B v2 C.nodes) (l1:Nat.ble A.nodes.length 1000=true) (l2:Nat.ble C.nodes.length 1000=true) :
  Calls Tryz.prog 86 #[.slice (some ⟨g,0,none⟩) 2 2] w (TmcP (Tr.par A C).nodes w) :=
 axPar_any _ 2 _ _ _ _ (row2 h h1 h2) rfl (by simp) (by simp) (le_rfl' l1) (by simp;exact le_rfl' l2)
theorem gSeq3 {w:World} {g B:Nat} {v1 v2 v3:Value} {A C D:Tr} (h:w.heap[g]?=some (.cells #[v1,v2,v3] 30)) (h1:NdsOwn w B v1 A.nodes) (h2:NdsOwn w B v2 C.nodes) (h3:NdsOwn w B v3 D.nodes) (l1:Nat.ble A.nodes.length 1000=true) (l2:Nat.ble C.nodes.length 1000=true) (l3:Nat.ble D.nodes.length 1000=true) :
  Calls Tryz.prog 85 #[.slice (some ⟨g,0,none⟩) 3 3] w (TmcP (Tr.seq (Tr.seq A C) D).nodes w) :=
 axSeq_any _ 3 _ _ _ _ (row3 h h1 h2 h3) rfl (by simp) (by simp) (le_rfl' l1) (by simp;exact ⟨le_rfl' l2,le_rfl' l3⟩)
theorem gPar3 {w:World} {g B:Nat} {v1 v2 v3:Value} {A C D:Tr} (h:w.heap[g]?=some (.cells #[v1,v2,v3] 30)) (h1:NdsOwn w B v1 A.nodes) (h2:NdsOwn w B v2 C.nodes) (h3:NdsOwn w B v3 D.nodes) (l1:Nat.ble A.nodes.length 1000=true) (l2:Nat.ble C.nodes.length 1000=true) (l3:Nat.ble D.nodes.length 1000=true) :
  Calls Tryz.prog 86 #[.slice (some ⟨g,0,none⟩) 3 3] w (TmcP (Tr.par (Tr.par A C) D).nodes w) :=
 axPar_any _ 3 _ _ _ _ (row3 h h1 h2 h3) rfl (by simp) (by simp) (le_rfl' l1) (by simp;exact ⟨le_rfl' l2,le_rfl' l3⟩)
def AllO (w:World) (B:Nat) (L:List (Value × Tr)):Prop:=∀ x ∈ L,NdsOwn w B x.1 x.2.nodes
theorem AllO.nil (w:World) (B:Nat):AllO w B []:=by intro x hx;simp at hx
theorem AllO.cons {w:World} {B:Nat} {v:Value} {T:Tr} {L:List (Value × Tr)} (h:NdsOwn w B v T.nodes) (H:AllO w B L):AllO w B ((v,T) :: L):=by
 intro x hx
 rcases List.mem_cons.1 hx with rfl|hx
 ·exact h
 ·exact H x hx
theorem AllO.keep {w w':World} {B:Nat} {L:List (Value × Tr)} (hb:Below w.heap.size w w') (H:AllO w B L):AllO w' B L:=fun x hx=>(H x hx).keep hb
def RuS (w:World) (B:Nat) (v:Value) (xs:List RuV):Prop:=w.ownsRow B 32 3 v xs.length (xs.flatMap ruCells)∧∀ x ∈ xs,NdsOwn w B x.2.1 x.1.left∧NdsOwn w B x.2.2 x.1.right
theorem RuS.keep {w w':World} {B:Nat} {v:Value} {xs:List RuV} (hb:Below w.heap.size w w') (h:RuS w B v xs):RuS w' B v xs:=⟨owns_keep hb h.1,fun x hx=>⟨(h.2 x hx).1.keep hb,(h.2 x hx).2.keep hb⟩⟩
theorem RuS.mono {w:World} {B B':Nat} {v:Value} {xs:List RuV} (hB:B'≤B) (h:RuS w B v xs):RuS w B' v xs:=⟨owns_mono hB h.1,fun x hx=>⟨(h.2 x hx).1.mono hB,(h.2 x hx).2.mono hB⟩⟩
theorem RuS.at {w:World} {B:Nat} {v:Value} {xs:List RuV} (h:RuS w B v xs):RusAt w v (xs.map Prod.fst):=by
 obtain ⟨ho,hb⟩:=h
 have ho':w.ownsRow B 32 3 v (xs.map Prod.fst).length (xs.flatMap ruCells):=by rw [List.length_map];exact ho
 refine owns_slat ho' _ fun i b o hi' hc=>⟨hi',?_⟩
 have hi:i<xs.length:=by simpa using hi'
 have g:∀ j,j<3 → w.cell? ⟨b,o+j,none⟩=(ruCells xs[i])[j]?:=fun j hj=>(hc j hj).trans (flat_get ruCells_len xs i j hi hj)
 rw [List.getElem_map]
 have hx:=hb _ (List.getElem_mem hi)
 exact ⟨g 0 (by omega),⟨xs[i].2.1,g 1 (by omega),hx.1.at⟩,xs[i].2.2,g 2 (by omega),hx.2.at⟩
theorem RuS.shape {w:World} {B:Nat} {v:Value} {xs:List RuV} (h:RuS w B v xs):∃ a cap,v=.slice a xs.length cap:=by
 rcases h.1.2 with ⟨hv,he⟩|⟨g,cap,cur,hv,_⟩
 ·exact ⟨none,0,by rw [hv,he]⟩
 ·exact ⟨_,_,hv⟩
theorem ruS_one {w:World} {B:Nat} {xs:List RuV} (h:∀ x ∈ xs,NdsOwn w B x.2.1 x.1.left∧NdsOwn w B x.2.2 x.1.right):∀ u ∈ xs.flatMap ruCells,u.oneCell'=true:=by
 intro u hu
 obtain ⟨x,hx,hd⟩:=List.mem_flatMap.1 hu
 obtain ⟨a,c,he⟩:=(h x hx).1.slice
 obtain ⟨a2,c2,he2⟩:=(h x hx).2.slice
 simp [ruCells] at hd
 rcases hd with rfl|rfl|rfl
 ·rfl
 ·rw [he];rfl
 ·rw [he2];rfl
end Go.Proofs.YtbljmfcifljkaaaGreatDoor
/-
  Rows of rules whose terms are shared: what a function that makes one hands back, and appends to it in a drawn region. Own work.
-/
namespace Go.Proofs.YtbljmfcifljkaaaGreatDoor
open Go.RowKit
set_option maxRecDepth 100000
set_option maxHeartbeats 4000000
def RuAllO (w:World) (B:Nat) (xs:List RuV):Prop:=∀ x ∈ xs,NdsOwn w B x.2.1 x.1.left∧NdsOwn w B x.2.2 x.1.right
theorem RuAllO.nil (w:World) (B:Nat):RuAllO w B []:=by intro x hx;simp at hx
theorem RuAllO.keep {w w':World} {B:Nat} {xs:List RuV} (hb:Below w.heap.size w w') (H:RuAllO w B xs):RuAllO w' B xs:=fun x hx=>⟨(H x hx).1.keep hb,(H x hx).2.keep hb⟩
theorem RuAllO.mono {w:World} {B B':Nat} {xs:List RuV} (hB:B'≤B) (H:RuAllO w B xs):RuAllO w B' xs:=fun x hx=>⟨(H x hx).1.mono hB,(H x hx).2.mono hB⟩
theorem RuAllO.snoc {w:World} {B:Nat} {xs:List RuV} {nm:ByteArray} {v1 v2:Value} {l r:List Nd} (H:RuAllO w B xs) (h1:NdsOwn w B v1 l) (h2:NdsOwn w B v2 r):RuAllO w B (xs ++ [(⟨nm,l,r⟩,v1,v2)]):=by
 intro x hx
 rcases List.mem_append.1 hx with hx|hx
 ·exact H x hx
 ·simp only [List.mem_singleton] at hx
  subst hx
  exact ⟨h1,h2⟩
def RusSP (L:List Rul) (w:World) (e:Ending) (w':World):Prop:=∃ v xs,e=.returned v∧xs.map Prod.fst=L∧RuS w' w.heap.size v xs∧Below w.heap.size w w'
theorem RuS.app {w w':World} {B:Nat} {v v':Value} {xs ys:List RuV} (h:RuS w B v xs) (hy:RuAllO w B ys)
  (hown:w'.ownsRow B 32 3 v' (xs.length+ys.length) (xs.flatMap ruCells ++ ys.flatMap ruCells)) (hg:w.grownBy w' v.ownBlock):RuS w' B v' (xs ++ ys):=by
 have ne:∀ (u:Value) ns,NdsOwn w B u ns → ∀ k,u.ownBlock=some k → v.ownBlock ≠ some k:=fun u ns hu k hk=>owns_ne hu h.1 (by decide) k hk
 have mv:∀ (u:Value) ns,NdsOwn w B u ns → NdsOwn w' B u ns:=fun u ns hu=>nds_grown hu hg (ne u ns hu)
 refine ⟨?_,?_⟩
 ·rw [List.length_append,List.flatMap_append];exact hown
 ·intro x hx
  have hxo:NdsOwn w B x.2.1 x.1.left∧NdsOwn w B x.2.2 x.1.right:=by
   rcases List.mem_append.1 hx with hx|hx
   ·exact h.2 x hx
   ·exact hy x hx
  exact ⟨mv _ _ hxo.1,mv _ _ hxo.2⟩
theorem x_ruapp {ops:Array Oper} {Q:Exit → Act → World → Prop} {T:Nat → Prop} {w0:World} {i:Nat} {l:List Nat} {bs:Nat → Prop} {a:Act} {w:World} {o:Oper} (ho:ops[i]?=some o) (hk:opKind o=.act) (hg:o.guard=none) (hC:Exc T w0 w) (s x:Operand)
  (hop:o.op=Op.call { callee:=Callee.builtin Builtin.append,args:=#[s,x],argTypes:=#[22,22] })
  (B:Nat) (v:Value) (xs ys:List RuV) (b m c:Nat) (hm:ys.length=m) (hs:a.eval s=v) (hx:a.eval x=.slice (some ⟨b,0,none⟩) m c)
  (hvT:∀ k,v.ownBlock=some k → (k<w0.heap.size∧T k)∨(w0.heap.size≤k∧bs k)) (hbase:B≤w.heap.size) (hl:xs.length+m≤1000)
  (hrow:RuS w B v xs) (hys:RuAllO w B ys) (hbo:w.heap[b]?=some (.cells (ys.flatMap ruCells).toArray 32))
  (h:∀ K:(Nat → Prop) → Act → World → Prop,(∀ bs a w,WX Tryz.prog ops (Exc T w0) w0.heap.size Q l bs a w → K bs a w) → ∀ w1 w2 v',Exc T w0 w1 → Below w.heap.size w w1 →
   RuS w2 B v' (xs ++ ys) → w1.grownBy w2 v.ownBlock → Exc T w0 w2 → (v'.ownBlock=v.ownBlock∨v'.ownBlock=some w1.heap.size) → K (more bs w1 w2) (a.put o.dst v') w2) :
  WX Tryz.prog ops (Exc T w0) w0.heap.size Q (i :: l) bs a w:=by
 subst hm
 obtain ⟨i0,hi,hz0,hz1,hz2⟩:=info_parts infoRu
 refine x_src ho hk hg hC s x 22 hop B 32 i0 _ 3 64 Tryz.underlying22 hi hz0 hz1 hz2 rfl (by decide) v xs.length (xs.flatMap ruCells) hs hvT (.slice (some ⟨b,0,none⟩) ys.length c) ys.length (ys.flatMap ruCells) hx ?_ (by unfold maxLen;omega) (by omega) hbase ?_ ?_
 ·exact ruS_one hys
 ·intro w1 hw1 hb1
  refine ⟨(hrow.keep hb1).1,flat_length ruCells_len ys,.inr ⟨_,c,rfl,?_⟩⟩
  obtain ⟨m0,_,_⟩:=made_cell ((hb1.block b (made_cell hbo).2.2).trans hbo)
  intro j u hj
  rw [addr_add,Nat.zero_add,m0 j]
  simpa using hj
 ·intro K hK w1 w2 v' hw1 hb1 h1 h2 h3 h4
  exact h K hK w1 w2 v' hw1 hb1 ((hrow.keep hb1).app (hys.keep hb1) h1 h2) h2 h3 h4
end Go.Proofs.YtbljmfcifljkaaaGreatDoor
