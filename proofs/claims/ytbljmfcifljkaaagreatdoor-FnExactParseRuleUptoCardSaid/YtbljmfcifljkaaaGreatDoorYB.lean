/-
  Regions that draw their order, with calls that make memory: the reads hold in every world that has only grown, the calls come in the order of the text.
  One walk in the order of the text serves every order. Own work, over the library's laws on orders.
-/
import Derived.StillTailTactics
import Derived.WalkKit
import Derived.Test.YtbljmfcifljkaaaGreatDoorYA
import Derived.Maps.AppendAt
set_option linter.all false
set_option maxRecDepth 100000
set_option maxHeartbeats 8000000
namespace Go.Proofs.YtbljmfcifljkaaaGreatDoor
open Go.RowKit
section
variable {P:Program} {ops:Array Oper} {md:Region.Mode} {C:World → Prop}
def stillAt (P:Program) (o:Oper) (a:Act) (v:Value) (w:World):Prop :=
 (execOp a.eval o).run P w=.ok (.value v) w∨((execOp a.eval o).run P w=.ok .skip w∧v=undef)
def isCall (o:Oper):Bool :=
 match o.op with
 | .call c=>(match c.callee with
  | .builtin _=>false
  | _=>true)
 | _=>false
def gOp (P:Program) (C:World → Prop) (o:Oper) (a:Act) (w:World) (K:Act → World → Prop):Prop :=
 (∃ v,(∀ w',C w' → stillAt P o a v w')∧K (a.put o.dst v) w) ∨
 (isCall o=true∧∃ f args,(∀ w',C w' → (execOp a.eval o).run P w'=.ok (.enter f args) w')∧Calls P f args w fun e w''=>∃ v,e=.returned v∧C w''∧K (a.put o.dst v) w'')
def gAt (P:Program) (ops:Array Oper) (C:World → Prop) (o:Oper) (a:Act) (w:World) (K:Act → World → Prop):Prop :=
 if Region.wanted o (yielded ops a.tmps) then gOp P C o a w K else K (a.put o.dst undef) w
def wpG (P:Program) (ops:Array Oper) (C:World → Prop) (L:Act → World → Prop):List Oper → Act → World → Prop
 | [],a,w=>L a w
 | o :: rest,a,w=>gAt P ops C o a w (wpG P ops C L rest)
theorem wp_of_gOp {o:Oper} {a:Act} {w:World} {K K':Act → World → Prop} {Q':Exit → Act → World → Prop} (hC:C w) (h:∀ a w',C w' → K a w' → K' a w') (hh:gOp P C o a w K):o.wp P a w K' Q':=by
 unfold Oper.wp
 rcases hh with ⟨v,h1,h2⟩|⟨hi,f,args,h1,h2⟩
 ·rcases h1 w hC with h3|⟨h3,h4⟩
  ·rw [h3,Oper.upon_value];exact h _ _ hC h2
  ·rw [h3,Oper.upon_skip];subst h4;exact h _ _ hC h2
 ·rw [h1 w hC,Oper.upon_enter]
  exact h2.mono fun e w'' ⟨v,e1,e2,e3⟩=>by subst e1;exact h _ _ e2 e3
theorem calls_some {f:FuncId} {args:Array Value} {w:World} {R:Ending → World → Prop} (h:Calls P f args w R):∃ e w',R e w':=by
 obtain ⟨e,w',_,hR,_⟩:=h []
 exact ⟨e,w',hR⟩
def YieldsC (P:Program) (ops:Array Oper) (C:World → Prop) (o:Oper) (v:Value) (a:Act):Prop :=
 (Region.wanted o (yielded ops a.tmps)=true∧∀ w,C w → stillAt P o a v w)∨(Region.wanted o (yielded ops a.tmps)=false∧v=undef)
def EntersC (P:Program) (ops:Array Oper) (C:World → Prop) (o:Oper) (f:FuncId) (args:Array Value) (a:Act):Prop :=
 isCall o=true∧Region.wanted o (yielded ops a.tmps)=true∧∀ w,C w → (execOp a.eval o).run P w=.ok (.enter f args) w
theorem YieldsC.gAt {o:Oper} {v:Value} {a:Act} {w:World} {K:Act → World → Prop} (hy:YieldsC P ops C o v a) (h:K (a.put o.dst v) w):gAt P ops C o a w K:=by
 unfold Proofs.YtbljmfcifljkaaaGreatDoor.gAt
 rcases hy with ⟨hw,hv⟩|⟨hw,rfl⟩
 ·rw [if_pos hw];exact .inl ⟨v,hv,h⟩
 ·rw [if_neg (by rw [hw];simp)];exact h
theorem EntersC.gAt {o:Oper} {f:FuncId} {args:Array Value} {a:Act} {w:World} {K:Act → World → Prop} (hy:EntersC P ops C o f args a) (h:Calls P f args w fun e w''=>∃ v,e=.returned v∧C w''∧K (a.put o.dst v) w''):gAt P ops C o a w K:=by
 unfold Proofs.YtbljmfcifljkaaaGreatDoor.gAt
 obtain ⟨h1,h2,h3⟩:=hy
 rw [if_pos h2]
 exact .inr ⟨h1,f,args,h3,h⟩
theorem gAt_cases {o:Oper} {a:Act} {w:World} {K:Act → World → Prop} (h:gAt P ops C o a w K) :
  (∃ v,YieldsC P ops C o v a∧K (a.put o.dst v) w)∨(∃ f args,EntersC P ops C o f args a∧Calls P f args w fun e w''=>∃ v,e=.returned v∧C w''∧K (a.put o.dst v) w''):=by
 unfold gAt at h
 by_cases hw:Region.wanted o (yielded ops a.tmps)=true
 ·rw [if_pos hw] at h
  rcases h with ⟨v,h1,h2⟩|⟨hi,f,args,h1,h2⟩
  ·exact .inl ⟨v,.inl ⟨hw,h1⟩,h2⟩
  ·exact .inr ⟨f,args,⟨hi,hw,h1⟩,h2⟩
 ·rw [if_neg hw] at h
  exact .inl ⟨undef,.inr ⟨by simpa using hw,rfl⟩,h⟩
theorem YieldsC.of_same {o:Oper} {v:Value} {a a':Act} (hy:YieldsC P ops C o v a) (he:execOp a'.eval o=execOp a.eval o)
  (hw:Region.wanted o (yielded ops a'.tmps)=Region.wanted o (yielded ops a.tmps)):YieldsC P ops C o v a':=by
 unfold YieldsC stillAt at *
 rw [he,hw]
 exact hy
theorem EntersC.of_same {o:Oper} {f:FuncId} {args:Array Value} {a a':Act} (hy:EntersC P ops C o f args a) (he:execOp a'.eval o=execOp a.eval o)
  (hw:Region.wanted o (yielded ops a'.tmps)=Region.wanted o (yielded ops a.tmps)):EntersC P ops C o f args a':=by
 unfold EntersC at *
 rw [he,hw]
 exact hy
theorem YieldsC.unique {o:Oper} {v v':Value} {a:Act} {w:World} (hC:C w) (h:YieldsC P ops C o v a) (h':YieldsC P ops C o v' a):v=v':=by
 rcases h with ⟨h1,h2⟩|⟨h1,h2⟩ <;> rcases h' with ⟨h3,h4⟩|⟨h3,h4⟩
 ·rcases h2 w hC with h5|⟨h5,h6⟩ <;> rcases h4 w hC with h7|⟨h7,h8⟩
  ·rw [h5] at h7;simp at h7;exact h7
  ·rw [h5] at h7;simp at h7
  ·rw [h5] at h7;simp at h7
  ·rw [h6,h8]
 ·rw [h1] at h3;cases h3
 ·rw [h1] at h3;cases h3
 ·rw [h2,h4]
def wpAnyG (P:Program) (md:Region.Mode) (ops:Array Oper) (C:World → Prop) (n:Nat) (L:Array Bool → Act → World → Prop):Nat → Array Bool → Act → World → Prop
 | 0,listed,a,w=>L listed a w
 | f+1,listed,a,w=>Region.ready md ops listed ≠ []∧∀ i ∈ Region.ready md ops listed,i<n∧∀ o,ops[i]?=some o → gAt P ops C o a w (wpAnyG P md ops C n L f (listed.setIfInBounds i true))
theorem wpAny_of_headG {n g:Nat} {L:Array Bool → Act → World → Prop} {Q':Exit → Act → World → Prop} (hL:∀ listed a w,C w → L listed a w → wpAny P md ops Q' g listed a w) :
  ∀ (f:Nat) (listed:Array Bool) (a:Act) (w:World),C w → wpAnyG P md ops C n L f listed a w → wpAny P md ops Q' (f+g) listed a w
 | 0,listed,a,w,hC,h=>by rw [Nat.zero_add];exact hL _ _ _ hC h
 | f+1,listed,a,w,hC,h=>by
  rw [show f+1+g=(f+g)+1 by omega]
  refine ⟨fun h0=>absurd h0 h.1,fun i hi=>?_⟩
  have h2:=(h.2 i hi).2
  obtain ⟨_,o,ho,_⟩:=mem_ready.1 hi
  have h3:=h2 o ho
  unfold wpOp
  simp only [ho]
  unfold gAt at h3
  split
  ·rename_i hw
   rw [if_pos hw] at h3
   exact .inl (wp_of_gOp hC (fun a' w' hC' h'=>wpAny_of_headG hL f _ a' w' hC' h') h3)
  ·rename_i hw
   rw [if_neg hw] at h3
   exact wpAny_of_headG hL f _ _ _ hC h3
theorem YieldsC.back {oi oj:Oper} {v u:Value} {a:Act} (hap:oi.apart ops oj=true) (hsj:∀ cs b,oj.op ≠ .select cs b) (h:YieldsC P ops C oj u (a.put oi.dst v)):YieldsC P ops C oj u a:=by
 obtain ⟨h1,h2,h3⟩:=Oper.apart_spec hap
 exact h.of_same (execOp_put oj hsj a oi.dst v h1).symm (wanted_put oj a oi.dst v h1).symm
theorem EntersC.back {oi oj:Oper} {v:Value} {f:FuncId} {args:Array Value} {a:Act} (hap:oi.apart ops oj=true) (hsj:∀ cs b,oj.op ≠ .select cs b) (h:EntersC P ops C oj f args (a.put oi.dst v)):EntersC P ops C oj f args a:=by
 obtain ⟨h1,h2,h3⟩:=Oper.apart_spec hap
 exact h.of_same (execOp_put oj hsj a oi.dst v h1).symm (wanted_put oj a oi.dst v h1).symm
theorem YieldsC.fwd {oi oj:Oper} {v u:Value} {a:Act} (hap:oi.apart ops oj=true) (hsi:∀ cs b,oi.op ≠ .select cs b) (h:YieldsC P ops C oi v a):YieldsC P ops C oi v (a.put oj.dst u):=by
 obtain ⟨h1,h2,h3⟩:=Oper.apart_spec hap
 exact h.of_same (execOp_put oi hsi a oj.dst u h3) (wanted_put oi a oj.dst u h3)
theorem EntersC.fwd {oi oj:Oper} {u:Value} {f:FuncId} {args:Array Value} {a:Act} (hap:oi.apart ops oj=true) (hsi:∀ cs b,oi.op ≠ .select cs b) (h:EntersC P ops C oi f args a):EntersC P ops C oi f args (a.put oj.dst u):=by
 obtain ⟨h1,h2,h3⟩:=Oper.apart_spec hap
 exact h.of_same (execOp_put oi hsi a oj.dst u h3) (wanted_put oi a oj.dst u h3)
theorem put_swap {oi oj:Oper} {v u:Value} {a:Act} (hap:oi.apart ops oj=true):(a.put oi.dst v).put oj.dst u=(a.put oj.dst u).put oi.dst v :=
 Act.put_comm a v u (Oper.apart_spec hap).2.1
def callsB (md:Region.Mode) (ops:Array Oper):Bool :=
 (List.range ops.size).all fun j=>(List.range j).all fun i =>
  !(((ops[j]?).map isCall).getD false && ((ops[i]?).map isCall).getD false) ||
   (List.range j).any fun p=>decide (i≤p) && ((ops[p]?).map isCall).getD false && Region.waitsFor md ops j p
theorem callsB_spec (h:callsB md ops=true) {i j:Nat} {oi oj:Oper} (hi:ops[i]?=some oi) (hj:ops[j]?=some oj) (ci:isCall oi=true) (cj:isCall oj=true) (hij:i<j) :
  ∃ p,i≤p∧p<j∧(∃ op,ops[p]?=some op∧isCall op=true)∧Region.waitsFor md ops j p=true:=by
 have hjs:j<ops.size:=(Array.getElem?_eq_some_iff.1 hj).1
 have h1:=List.all_eq_true.1 h j (List.mem_range.2 hjs)
 have h2:=List.all_eq_true.1 h1 i (List.mem_range.2 hij)
 simp only [hi,hj,Option.map_some,Option.getD_some,ci,cj,Bool.and_self,Bool.not_true,Bool.false_or] at h2
 obtain ⟨p,hp,hp2⟩:=List.any_eq_true.1 h2
 simp only [Bool.and_eq_true,decide_eq_true_eq] at hp2
 refine ⟨p,hp2.1.1,List.mem_range.1 hp,?_,hp2.2⟩
 cases hop:ops[p]? with
 | none=>simp [hop] at hp2
 | some op=>exact ⟨op,rfl,by simpa [hop] using hp2.1.2⟩
theorem call_unlisted {n:Nat} {listed:Array Bool} (h:callsB md ops=true) (inv:HeadInv md ops n listed) {i:Nat} {oi:Oper} (hi:ops[i]?=some oi) (ci:isCall oi=true) (hun:listed.getD i true=false) :
  ∀ (d j:Nat) (oj:Oper),j - i=d → i<j → ops[j]?=some oj → isCall oj=true → listed.getD j false=false:=by
 intro d
 induction d using Nat.strongRecOn with
 | _ d ih =>
  intro j oj hd hij hj cj
  obtain ⟨p,h1,h2,⟨op,hp,cp⟩,hw⟩:=callsB_spec h hi hj ci cj hij
  cases hl:listed.getD j false with
  | false=>rfl
  | true =>
   obtain ⟨oj',hj',e,he,hb,hon⟩:=Region.waitsFor_spec hw
   have h3:=inv.closed j oj' hj' hl e he hb
   rw [hon] at h3
   by_cases hpi:p=i
   ·subst hpi
    rw [getD_both hun] at h3
    cases h3
   ·have:=ih (p - i) (by omega) p op rfl (by omega) hp cp
    rw [this] at h3
    cases h3
theorem call_not_ready {n:Nat} {listed:Array Bool} (h:callsB md ops=true) (inv:HeadInv md ops n listed) {i j:Nat} {oi oj:Oper} (hi:ops[i]?=some oi) (ci:isCall oi=true) (hun:listed.getD i true=false)
  (hlow:∀ k,k<i → listed.getD k true=true) (hj:ops[j]?=some oj) (cj:isCall oj=true) (hji:j ≠ i):j ∉ Region.ready md ops listed:=by
 intro hr
 obtain ⟨hjun,oj',hj',hall⟩:=mem_ready.1 hr
 rcases Nat.lt_or_ge j i with hlt|hge
 ·rw [hlow j hlt] at hjun;cases hjun
 ·have hij:i<j:=by omega
  obtain ⟨p,h1,h2,⟨op,hp,cp⟩,hw⟩:=callsB_spec h hi hj ci cj hij
  obtain ⟨oj'',hj'',e,he,hb,hon⟩:=Region.waitsFor_spec hw
  have e1:oj'=oj'':=Option.some.inj (hj'.symm.trans hj'')
  subst e1
  have h3:=hall e he hb
  rw [hon] at h3
  by_cases hpi:p=i
  ·subst hpi;rw [getD_both hun] at h3;cases h3
  ·rw [call_unlisted h inv hi ci hun _ p op rfl (by omega) hp cp] at h3;cases h3
theorem not_waiting {listed:Array Bool} {i:Nat} {oj:Oper} (hr:i ∈ Region.ready md ops listed) (hall:∀ e ∈ oj.after,Region.binds md e=true → listed.getD e.on false=true) :
  ∀ e ∈ oj.after,Region.binds md e=true → e.on ≠ i:=fun e he hb heq=>by
 have h1:=hall e he hb
 rw [heq,getD_both (mem_ready.1 hr).1] at h1
 cases h1
theorem wpAnyG_still {n i:Nat} {oi:Oper} {v:Value} {L:Array Bool → Act → World → Prop} (hi:ops[i]?=some oi) (hsel:∀ (j:Nat) (o:Oper) cs b,ops[j]?=some o → o.op ≠ .select cs b)
  (hs:Region.sinkB md ops n=true) (hc:Region.chainB md ops n=true) (hn:n<ops.size) (hin:i<n)
  (hdone:∀ listed a w,L listed a w → ∀ j ∈ Region.ready md ops listed,n≤j) :
  ∀ (f:Nat) (listed:Array Bool) (a:Act) (w:World),HeadInv md ops n listed →
   (∀ j oj,ops[j]?=some oj → j ≠ i → listed.getD j true=false → (∀ e ∈ oj.after,Region.binds md e=true → e.on ≠ i) → oi.apart ops oj=true) →
   i ∈ Region.ready md ops listed → YieldsC P ops C oi v a →
   wpAnyG P md ops C n L f (listed.setIfInBounds i true) (a.put oi.dst v) w → wpAnyG P md ops C n L (f+1) listed a w:=by
 intro f
 induction f with
 | zero =>
  intro listed a w inv _ hr hy H
  have hun:=(mem_ready.1 hr).1
  refine ⟨fun h=>(by rw [h] at hr;cases hr),fun j hj=>?_⟩
  have hjn:j<n:=by
   rcases Nat.lt_or_ge j n with h|h
   ·exact h
   ·exact absurd hj (tail_waits hs hc hn inv _ i rfl hin hun j h)
  refine ⟨hjn,fun o ho=>?_⟩
  by_cases hji:j=i
  ·subst hji;rw [hi] at ho;obtain rfl:=Option.some.inj ho;exact hy.gAt H
  ·have:=hdone _ _ _ H j (ready_mono hj hji)
   omega
 | succ f ih =>
  intro listed a w inv hfree hr hy H
  have hun:=(mem_ready.1 hr).1
  refine ⟨fun h=>(by rw [h] at hr;cases hr),fun j hj=>?_⟩
  have hjn:j<n:=by
   rcases Nat.lt_or_ge j n with h|h
   ·exact h
   ·exact absurd hj (tail_waits hs hc hn inv _ i rfl hin hun j h)
  refine ⟨hjn,fun o ho=>?_⟩
  by_cases hji:j=i
  ·subst hji;rw [hi] at ho;obtain rfl:=Option.some.inj ho;exact hy.gAt H
  ·have h1:=(H.2 j (ready_mono hj hji)).2 o ho
   obtain ⟨hjun,oj,hoj,hall⟩:=mem_ready.1 hj
   have eo:o=oj:=Option.some.inj (ho.symm.trans hoj)
   subst eo
   have hap:=hfree j o ho hji hjun (not_waiting hr hall)
   have hsj:=fun cs b=>hsel j o cs b ho
   have hsi:=fun cs b=>hsel i oi cs b hi
   have hfree':∀ k ok,ops[k]?=some ok → k ≠ i → (listed.setIfInBounds j true).getD k true=false →
     (∀ e ∈ ok.after,Region.binds md e=true → e.on ≠ i) → oi.apart ops ok=true:=fun k ok hk hki hun hno=>by
    refine hfree k ok hk hki ?_ hno
    by_cases hjk:j=k
    ·subst hjk;exact hjun
    ·rw [getD_set_ne true hjk] at hun;exact hun
   have hcomm:=Array.setIfInBounds_comm (xs:=listed) (a:=true) (b:=true) (i:=i) (j:=j) (Ne.symm hji)
   rcases gAt_cases h1 with ⟨u,h2,h3⟩|⟨g,args,h2,h3⟩
   ·refine (h2.back hap hsj).gAt (ih _ _ _ (inv.set hj hjn) hfree' (ready_mono hr (Ne.symm hji)) (hy.fwd hap hsi) ?_)
    rw [← put_swap hap,← hcomm]
    exact h3
   ·refine (h2.back hap hsj).gAt (h3.mono fun e w'' ⟨u,e1,e2,e3⟩=>⟨u,e1,e2,ih _ _ _ (inv.set hj hjn) hfree' (ready_mono hr (Ne.symm hji)) (hy.fwd hap hsi) ?_⟩)
    rw [← put_swap hap,← hcomm]
    exact e3
theorem wpAnyG_call {n i:Nat} {oi:Oper} {g:FuncId} {args:Array Value} {L:Array Bool → Act → World → Prop} (hi:ops[i]?=some oi) (hsel:∀ (j:Nat) (o:Oper) cs b,ops[j]?=some o → o.op ≠ .select cs b)
  (hs:Region.sinkB md ops n=true) (hc:Region.chainB md ops n=true) (hk:callsB md ops=true) (hn:n<ops.size) (hin:i<n)
  (hdone:∀ listed a w,L listed a w → ∀ j ∈ Region.ready md ops listed,n≤j) :
  ∀ (f:Nat) (listed:Array Bool) (a:Act) (w:World),C w → HeadInv md ops n listed →
   (∀ j oj,ops[j]?=some oj → j ≠ i → listed.getD j true=false → (∀ e ∈ oj.after,Region.binds md e=true → e.on ≠ i) → oi.apart ops oj=true) →
   (∀ k,k<i → listed.getD k true=true) →
   i ∈ Region.ready md ops listed → EntersC P ops C oi g args a →
   (Calls P g args w fun e w''=>∃ v,e=.returned v∧C w''∧wpAnyG P md ops C n L f (listed.setIfInBounds i true) (a.put oi.dst v) w'') → wpAnyG P md ops C n L (f+1) listed a w:=by
 intro f
 induction f with
 | zero =>
  intro listed a w hC inv _ hlow hr hy H
  have hun:=(mem_ready.1 hr).1
  refine ⟨fun h=>(by rw [h] at hr;cases hr),fun j hj=>?_⟩
  have hjn:j<n:=by
   rcases Nat.lt_or_ge j n with h|h
   ·exact h
   ·exact absurd hj (tail_waits hs hc hn inv _ i rfl hin hun j h)
  refine ⟨hjn,fun o ho=>?_⟩
  by_cases hji:j=i
  ·subst hji;rw [hi] at ho;obtain rfl:=Option.some.inj ho;exact hy.gAt H
  ·obtain ⟨e,w'',v,_,_,h3⟩:=calls_some H
   have:=hdone _ _ _ h3 j (ready_mono hj hji)
   omega
 | succ f ih =>
  intro listed a w hC inv hfree hlow hr hy H
  have hun:=(mem_ready.1 hr).1
  refine ⟨fun h=>(by rw [h] at hr;cases hr),fun j hj=>?_⟩
  have hjn:j<n:=by
   rcases Nat.lt_or_ge j n with h|h
   ·exact h
   ·exact absurd hj (tail_waits hs hc hn inv _ i rfl hin hun j h)
  refine ⟨hjn,fun o ho=>?_⟩
  by_cases hji:j=i
  ·subst hji;rw [hi] at ho;obtain rfl:=Option.some.inj ho;exact hy.gAt H
  ·obtain ⟨hjun,oj,hoj,hall⟩:=mem_ready.1 hj
   have eo:o=oj:=Option.some.inj (ho.symm.trans hoj)
   subst eo
   have hap:=hfree j o ho hji hjun (not_waiting hr hall)
   have hsj:=fun cs b=>hsel j o cs b ho
   have hsi:=fun cs b=>hsel i oi cs b hi
   have hnc:isCall o=false:=by
    cases hcj:isCall o with
    | false=>rfl
    | true=>exact absurd hj (call_not_ready hk inv hi hy.1 hun hlow ho hcj hji)
   have hfree':∀ k ok,ops[k]?=some ok → k ≠ i → (listed.setIfInBounds j true).getD k true=false →
     (∀ e ∈ ok.after,Region.binds md e=true → e.on ≠ i) → oi.apart ops ok=true:=fun k ok hk hki hun hno=>by
    refine hfree k ok hk hki ?_ hno
    by_cases hjk:j=k
    ·subst hjk;exact hjun
    ·rw [getD_set_ne true hjk] at hun;exact hun
   have hlow':∀ k,k<i → (listed.setIfInBounds j true).getD k true=true:=fun k hk=>by
    by_cases hjk:j=k
    ·subst hjk;rw [hlow j hk] at hjun;cases hjun
    ·rw [getD_set_ne true hjk];exact hlow k hk
   have hcomm:=Array.setIfInBounds_comm (xs:=listed) (a:=true) (b:=true) (i:=i) (j:=j) (Ne.symm hji)
   have step:∀ v w'',C w'' → wpAnyG P md ops C n L (f+1) (listed.setIfInBounds i true) (a.put oi.dst v) w'' →
     ∃ u,YieldsC P ops C o u a∧wpAnyG P md ops C n L f ((listed.setIfInBounds j true).setIfInBounds i true) ((a.put o.dst u).put oi.dst v) w'':=by
    intro v w'' hC'' h3
    have h1:=(h3.2 j (ready_mono hj hji)).2 o ho
    rcases gAt_cases h1 with ⟨u,h2,h4⟩|⟨_,_,h2,_⟩
    ·refine ⟨u,h2.back hap hsj,?_⟩
     rw [← put_swap hap,← hcomm]
     exact h4
    ·rw [h2.1] at hnc;cases hnc
   obtain ⟨_,w0,v0,_,hC0,h0⟩:=calls_some H
   obtain ⟨u,hyu,_⟩:=step v0 w0 hC0 h0
   refine hyu.gAt (ih _ _ _ hC (inv.set hj hjn) hfree' hlow' (ready_mono hr (Ne.symm hji)) (hy.fwd hap hsi) ?_)
   refine H.mono fun e w'' ⟨v,e1,e2,e3⟩=>⟨v,e1,e2,?_⟩
   obtain ⟨u',hyu',h5⟩:=step v w'' e2 e3
   rw [hyu.unique hC hyu']
   exact h5
theorem wpAnyG_lex {n g:Nat} {Lq:Act → World → Prop} (hsel:Region.noSelect ops=true) (hs:Region.sinkB md ops n=true) (hc:Region.chainB md ops n=true) (hk:callsB md ops=true) (hn:n<ops.size) :
  ∀ (l:List Oper) (k:Nat) (listed:Array Bool) (a:Act) (w:World),C w → (∀ j,j<l.length → l[j]?=ops[k+j]?) → k+l.length=n → HeadInv md ops n listed → (∀ j,j<k → listed.getD j true=true) →
  Region.lexHead md ops g l.length k listed=true → wpG P ops C Lq l a w →
  wpAnyG P md ops C n (fun listed' a' w'=>Region.seqB md ops g n listed'=true∧Lq a' w') l.length listed a w
 | [],k,listed,a,w,_,_,hkn,_,_,hB,h=>by
  have:k=n:=by simpa using hkn
  subst this
  exact ⟨by simpa [Region.lexHead] using hB,h⟩
 | o :: l,k,listed,a,w,hC,hl,hkn,inv,hlow,hB,h=>by
  have h0:ops[k]?=some o:=by simpa using (hl 0 (by simp)).symm
  simp only [List.length_cons,Region.lexHead,Bool.and_eq_true] at hB
  obtain ⟨⟨hr,hf⟩,hB'⟩:=hB
  have hkl:k<n:=by simp only [List.length_cons] at hkn;omega
  have hr':k ∈ Region.ready md ops listed:=by simpa using hr
  have hks:k<listed.size:=by rw [inv.size];omega
  have hlow':∀ j,j<k+1 → (listed.setIfInBounds k true).getD j true=true:=fun j hj=>by
   by_cases hjk:k=j
   ·subst hjk;simp
   ·rw [getD_set_ne true hjk];exact hlow j (by omega)
  have go:∀ a' w',C w' → wpG P ops C Lq l a' w' → wpAnyG P md ops C n (fun listed' a' w'=>Region.seqB md ops g n listed'=true∧Lq a' w') l.length (listed.setIfInBounds k true) a' w':=fun a' w' hC' h' =>
   wpAnyG_lex hsel hs hc hk hn l (k+1) _ _ _ hC' (fun j hj=>by have:=hl (j+1) (by simp;omega);simpa [Nat.add_assoc,Nat.add_comm 1 j] using this) (by simp only [List.length_cons] at hkn;omega) (inv.set hr' hkl) hlow' hB' h'
  rcases gAt_cases h with ⟨v,hy,hK⟩|⟨f,args,hy,hK⟩
  ·exact wpAnyG_still h0 (Region.noSelect_spec hsel) hs hc hn hkl (fun listed' a' w' hL=>seqB_ready hL.1) l.length listed a w inv (Region.free_spec h0 hf) hr' hy (go _ _ hC hK)
  ·exact wpAnyG_call h0 (Region.noSelect_spec hsel) hs hc hk hn hkl (fun listed' a' w' hL=>seqB_ready hL.1) l.length listed a w hC inv (Region.free_spec h0 hf) hlow hr' hy
    (hK.mono fun e w'' ⟨v,e1,e2,e3⟩=>⟨v,e1,e2,go _ _ e2 e3⟩)
theorem region_grow {id:Nat} {Q:Exit → Act → World → Prop} {a:Act} {w:World} {l:List Oper} (n:Nat) (hm:P.follows .mixedOrders=true) (hB:Region.lexTailB .any l.toArray n=true) (hk:callsB .any l.toArray=true)
  (hC:C w.drew) (h:wpG P l.toArray C (fun a' w'=>wpList P l.toArray Q (l.drop n) a' w') (l.take n) a w.drew):(Code.region id l.toArray true).wp P Q a w:=by
 simp only [Region.lexTailB,Bool.and_eq_true,decide_eq_true_eq] at hB
 obtain ⟨⟨⟨⟨hsel,hn⟩,hs⟩,hc⟩,hlex⟩:=hB
 have hn':n<l.length:=by simpa using hn
 have htl:(l.take n).length=n:=by simp;omega
 have hdl:(l.drop n).length=l.toArray.size - n:=by simp
 have inv0:HeadInv .any l.toArray n (Array.replicate l.toArray.size false) :=
  ⟨by simp,fun j oj _ hl=>(by rw [getD_replicate_false] at hl;cases hl),fun t _ ht=>getD_in (by simpa using ht) (getD_replicate_false _ _)⟩
 have H:=wpAnyG_lex (md:=.any) (g:=l.toArray.size - n) hsel hs hc hk hn (l.take n) 0 _ a _ hC (fun j hj=>by
  have hj':j<n:=by rw [htl] at hj;exact hj
  simp [hj']) (by simpa using htl) inv0 (fun j hj=>absurd hj (Nat.not_lt_zero _)) (by rw [htl];exact hlex) h
 refine wp_region_any hm ?_
 have:=wpAny_of_headG (Q':=Q) (g:=l.toArray.size - n) (fun listed a' w' _ hL=>by
  have:=wpAny_of_seq (md:=.any) (Q':=Q) (l.drop n) n listed a' w' (fun j=>by simp [List.getElem?_drop]) (by rw [hdl];exact hL.1) hL.2
  rwa [hdl] at this) _ _ _ _ hC H
 rw [htl,show n+(l.toArray.size - n)=l.toArray.size by omega] at this
 exact this
theorem g_step {L:Act → World → Prop} {a:Act} {w:World} {o:Oper} {rest:List Oper} (h:∀ K:Act → World → Prop,(∀ a w,wpG P ops C L rest a w → K a w) → gAt P ops C o a w K):wpG P ops C L (o :: rest) a w :=
 h _ fun _ _ h=>h
theorem g_nil {L:Act → World → Prop} {a:Act} {w:World} (h:L a w):wpG P ops C L [] a w:=h
theorem g_still {o:Oper} {a:Act} {w:World} {K:Act → World → Prop} (hg:o.guard=none) (h:∃ v,(∀ w',C w' → (execOp a.eval o).run P w'=.ok (.value v) w')∧K (a.put o.dst v) w):gAt P ops C o a w K:=by
 obtain ⟨v,h1,h2⟩:=h
 unfold gAt
 rw [if_pos (by simp [Region.wanted,hg])]
 exact .inl ⟨v,fun w' hw'=>.inl (h1 w' hw'),h2⟩
theorem g_call {o:Oper} {a:Act} {w:World} {K:Act → World → Prop} (hg:o.guard=none) (hc:isCall o=true) (f:FuncId)
  (h:∃ args,(∀ w',C w' → (execOp a.eval o).run P w'=.ok (.enter f args) w')∧Calls P f args w fun e w''=>∃ v,e=.returned v∧C w''∧K (a.put o.dst v) w''):gAt P ops C o a w K:=by
 obtain ⟨args,h1,h2⟩:=h
 unfold gAt
 rw [if_pos (by simp [Region.wanted,hg])]
 exact .inr ⟨hc,f,args,h1,h2⟩
def Grew (w:World):World → Prop:=fun w'=>Below w.heap.size w w'
theorem Grew.refl (w:World):Grew w w:=Below.refl _ _
end
end Go.Proofs.YtbljmfcifljkaaaGreatDoor
/-
  Regions that draw their order, in general: reads, blocks that are made, and operations that act on memory one behind the other.
  One walk, in an order of one's own choice, serves every order. Own work, over the library's laws on orders.
-/
namespace Go.Proofs.YtbljmfcifljkaaaGreatDoor
open Go.RowKit
section
variable {P:Program} {ops:Array Oper} {C:World → Prop} {N:Nat} {Q:Exit → Act → World → Prop}
inductive OpKind where
 | still|act|make
 deriving DecidableEq
def opKind (o:Oper):OpKind :=
 match o.op with
 | .call c=>(match c.callee with
  | .builtin .len=>.still
  | .builtin .cap=>.still
  | .builtin .min=>.still
  | .builtin .max=>.still
  | _=>.act)
 | .store ..=>.act
 | .mapUpdate ..=>.act
 | .alloc ..=>.make
 | .buildSlice ..=>.make
 | .makeSlice ..=>.make
 | .makeMap ..=>.make
 | _=>.still
def ActAt (P:Program) (o:Oper) (a:Act) (w1:World) (R:Value → World → Prop):Prop :=
 match (execOp a.eval o).run P w1 with
 | .ok (.value v) w2=>R v w2
 | .ok .skip w2=>R undef w2
 | .ok (.enter f args) w2=>Calls P f args w2 fun e w3=>∃ v,e=.returned v∧R v w3
 | _=>False
theorem ActAt.mono {o:Oper} {a:Act} {w:World} {R R':Value → World → Prop} (h:ActAt P o a w R) (hr:∀ v w2,R v w2 → R' v w2):ActAt P o a w R':=by
 unfold ActAt at *
 generalize (execOp a.eval o).run P w=r at *
 cases r with
 | ok n w' =>
  cases n <;> simp only at h ⊢
  case value v=>exact hr _ _ h
  case skip=>exact hr _ _ h
  case enter f args=>exact Calls.mono h fun e w3 ⟨v,e1,e2⟩=>⟨v,e1,hr _ _ e2⟩
 | halt x w'=>simp only at h
theorem ActAt.some {o:Oper} {a:Act} {w:World} {R:Value → World → Prop} (h:ActAt P o a w R):∃ v w2,R v w2:=by
 unfold ActAt at *
 generalize (execOp a.eval o).run P w=r at *
 cases r with
 | ok n w' =>
  cases n <;> simp only at h
  case value v=>exact ⟨_,_,h⟩
  case skip=>exact ⟨_,_,h⟩
  case enter f args=>obtain ⟨_,w3,v,_,e2⟩:=calls_some h;exact ⟨_,_,e2⟩
 | halt x w'=>simp only at h
theorem ActAt.congr {o:Oper} {a a':Act} {w:World} {R:Value → World → Prop} (h:ActAt P o a w R) (he:execOp a'.eval o=execOp a.eval o):ActAt P o a' w R:=by
 unfold ActAt at *
 rw [he]
 exact h
theorem ActAt.wp {o:Oper} {a:Act} {w:World} {R:Value → World → Prop} {K:Act → World → Prop} {Q':Exit → Act → World → Prop} (h:ActAt P o a w R) (hr:∀ v w2,R v w2 → K (a.put o.dst v) w2):o.wp P a w K Q':=by
 unfold ActAt at h
 unfold Oper.wp
 generalize (execOp a.eval o).run P w=r at *
 cases r with
 | ok n w' =>
  cases n <;> simp only at h <;> simp only [Oper.upon]
  case value v=>exact hr _ _ h
  case skip=>exact hr _ _ h
  case enter f args=>exact Calls.mono h fun e w3 ⟨v,e1,e2⟩=>by subst e1;exact hr _ _ e2
 | halt x w'=>simp only at h
def stepX (P:Program) (C:World → Prop) (N:Nat) (o:Oper) (bs:Nat → Prop) (a:Act) (w:World) (K:(Nat → Prop) → Act → World → Prop):Prop :=
 match opKind o with
 | .still=>∃ v,(∀ w',C w' → stillAt P o a v w')∧K bs (a.put o.dst v) w
 | .act=>∀ w1,Below w.heap.size w w1 → ActAt P o a w1 fun v w2=>C w2∧w1.heap.size≤w2.heap.size∧(∀ k,N≤k → ¬ bs k → k<w1.heap.size → w2.heap[k]?=w1.heap[k]?) ∧
   ∃ bs':Nat → Prop,(∀ k,bs k → bs' k)∧(∀ k,bs' k → bs k∨(w1.heap.size≤k∧k<w2.heap.size))∧K bs' (a.put o.dst v) w2
 | .make=>∃ (mk:Nat → Value) (ob:Obj),(∀ w',C w' → (execOp a.eval o).run P w'=.ok (.value (mk w'.heap.size)) (w'.alloc ob)) ∧
   ∀ b w',Below w.heap.size w w' → w'.heap[b]?=some ob → N≤b → ¬ bs b → K (fun k=>k=b∨bs k) (a.put o.dst (mk b)) w'
def atX (P:Program) (ops:Array Oper) (C:World → Prop) (N:Nat) (o:Oper) (bs:Nat → Prop) (a:Act) (w:World) (K:(Nat → Prop) → Act → World → Prop):Prop :=
 if Region.wanted o (yielded ops a.tmps) then stepX P C N o bs a w K else K bs (a.put o.dst undef) w
def WX (P:Program) (ops:Array Oper) (C:World → Prop) (N:Nat) (Q:Exit → Act → World → Prop):List Nat → (Nat → Prop) → Act → World → Prop
 | [],_,a,w=>Q .normal a w
 | i :: l,bs,a,w=>∀ o,ops[i]?=some o → atX P ops C N o bs a w (WX P ops C N Q l)
structure Grows (C:World → Prop) (N:Nat):Prop where
 grow:∀ w w',C w → Below w.heap.size w w' → C w'
 base:∀ w,C w → N≤w.heap.size
def MakesC (P:Program) (ops:Array Oper) (C:World → Prop) (o:Oper) (mk:Nat → Value) (ob:Obj) (a:Act):Prop :=
 Region.wanted o (yielded ops a.tmps)=true∧∀ w',C w' → (execOp a.eval o).run P w'=.ok (.value (mk w'.heap.size)) (w'.alloc ob)
theorem MakesC.of_same {o:Oper} {mk:Nat → Value} {ob:Obj} {a a':Act} (hy:MakesC P ops C o mk ob a) (he:execOp a'.eval o=execOp a.eval o)
  (hw:Region.wanted o (yielded ops a'.tmps)=Region.wanted o (yielded ops a.tmps)):MakesC P ops C o mk ob a':=by
 unfold MakesC at *
 rw [he,hw]
 exact hy
theorem alloc_inj {w:World} {o o':Obj} (h:w.alloc o=w.alloc o'):o=o':=by
 have h1:=congrArg (fun x:World=>x.heap[w.heap.size]?) h
 simp only [heap_alloc_new] at h1
 exact Option.some.inj h1
theorem alloc_below (w:World) (o:Obj):Below w.heap.size w (w.alloc o):=(Below.refl _ _).alloc (Nat.le_refl _) _
theorem swapB (b c:Nat) (bs:Nat → Prop):(fun k=>k=b∨(k=c∨bs k))=fun k=>k=c∨(k=b∨bs k):=by
 funext k;exact propext ⟨fun h=>by rcases h with h|h|h <;> simp [h],fun h=>by rcases h with h|h|h <;> simp [h]⟩
def Free (ops:Array Oper) (i j:Nat):Prop:=∀ oi oj,ops[i]?=some oi → ops[j]?=some oj → oi.apart ops oj=true
def NoSel (ops:Array Oper):Prop:=∀ (j:Nat) (o:Oper) cs b,ops[j]?=some o → o.op ≠ .select cs b
theorem same_of_put {oi oj:Oper} {u:Value} {a:Act} (hap:oi.apart ops oj=true) (hsi:∀ cs b,oi.op ≠ .select cs b) :
  execOp (a.put oj.dst u).eval oi=execOp a.eval oi∧Region.wanted oi (yielded ops (a.put oj.dst u).tmps)=Region.wanted oi (yielded ops a.tmps):=by
 obtain ⟨h1,h2,h3⟩:=Oper.apart_spec hap
 exact ⟨execOp_put oi hsi a oj.dst u h3,wanted_put oi a oj.dst u h3⟩
theorem same_of_put' {oi oj:Oper} {v:Value} {a:Act} (hap:oi.apart ops oj=true) (hsj:∀ cs b,oj.op ≠ .select cs b) :
  execOp (a.put oi.dst v).eval oj=execOp a.eval oj∧Region.wanted oj (yielded ops (a.put oi.dst v).tmps)=Region.wanted oj (yielded ops a.tmps):=by
 obtain ⟨h1,h2,h3⟩:=Oper.apart_spec hap
 exact ⟨execOp_put oj hsj a oi.dst v h1,wanted_put oj a oi.dst v h1⟩
theorem WX_resolve (hsel:NoSel ops) {j b:Nat} {oj:Oper} {V:Value} {ob:Obj} {wj:World} (hj:ops[j]?=some oj) (hkj:opKind oj=.make) (hCj:C wj) (hbj:wj.heap.size=b) (l2:List Nat) :
  ∀ (l1:List Nat) (bs:Nat → Prop) (a:Act) (w w':World),(∀ i ∈ l1,Free ops i j) → WX P ops C N Q (l1 ++ j :: l2) bs a w → Region.wanted oj (yielded ops a.tmps)=true →
   (execOp a.eval oj).run P wj=.ok (.value V) (wj.alloc ob) → Below w.heap.size w w' → w'.heap[b]?=some ob → N≤b → ¬ bs b →
   WX P ops C N Q (l1 ++ l2) (fun k=>k=b∨bs k) (a.put oj.dst V) w':=by
 intro l1
 induction l1 with
 | nil =>
  intro bs a w w' _ h hw hrun hgr hb hN hbs
  have h1:=h oj hj
  unfold atX at h1
  rw [if_pos hw] at h1
  unfold stepX at h1
  rw [hkj] at h1
  obtain ⟨mk,ob',e1,e2⟩:=h1
  have e3:=e1 wj hCj
  rw [hrun] at e3
  simp only [Result.ok.injEq,Next.value.injEq] at e3
  obtain ⟨e4,e5⟩:=e3
  have e6:=alloc_inj e5
  subst e6
  rw [hbj] at e4
  rw [e4]
  exact e2 b w' hgr hb hN hbs
 | cons i l1 ih =>
  intro bs a w w' hfr h hw hrun hgr hb hN hbs oi hi
  have hap:=hfr i (List.mem_cons_self ..) oi oj hi hj
  have hsi:=fun cs b=>hsel i oi cs b hi
  have hsj:=fun cs b=>hsel j oj cs b hj
  have hfr':∀ i ∈ l1,Free ops i j:=fun x hx=>hfr x (List.mem_cons_of_mem _ hx)
  have h1:=h oi hi
  have sw:∀ v,(a.put oi.dst v).put oj.dst V=(a.put oj.dst V).put oi.dst v:=fun v=>put_swap hap
  have run':∀ v,(execOp (a.put oi.dst v).eval oj).run P wj=.ok (.value V) (wj.alloc ob):=fun v=>by rw [(same_of_put' hap hsj).1];exact hrun
  have wan':∀ v,Region.wanted oj (yielded ops (a.put oi.dst v).tmps)=true:=fun v=>by rw [(same_of_put' hap hsj).2];exact hw
  unfold atX at h1 ⊢
  rw [(same_of_put (u:=V) hap hsi).2]
  by_cases hwi:Region.wanted oi (yielded ops a.tmps)=true
  ·rw [if_pos hwi] at h1 ⊢
   unfold stepX at h1 ⊢
   cases hk:opKind oi with
   | still =>
    simp only [hk] at h1 ⊢
    obtain ⟨v,e1,e2⟩:=h1
    refine ⟨v,fun w1 hw1=>?_,?_⟩
    ·have:=e1 w1 hw1
     unfold stillAt at this ⊢
     rw [(same_of_put (u:=V) hap hsi).1]
     exact this
    ·rw [← sw]
     exact ih _ _ _ _ hfr' e2 (wan' v) (run' v) hgr hb hN hbs
   | act =>
    simp only [hk] at h1 ⊢
    intro w1 hw1
    have hb1:w1.heap[b]?=some ob:=by
     have hlt:b<w'.heap.size:=(Array.getElem?_eq_some_iff.1 hb).1
     rw [hw1.block b hlt];exact hb
    have hlt1:b<w1.heap.size:=(Array.getElem?_eq_some_iff.1 hb1).1
    refine ((h1 w1 (hgr.trans (hw1.mono hgr.size))).congr (same_of_put (u:=V) hap hsi).1).mono ?_
    rintro v w2 ⟨c1,c2,c3,bs',c4,c5,c6⟩
    refine ⟨c1,c2,fun k h2 h3 h4=>c3 k h2 (fun h=>h3 (.inr h)) h4,fun k=>k=b∨bs' k,fun k hk'=>hk'.imp id (c4 k),fun k hk'=>?_,?_⟩
    ·rcases hk' with hk'|hk'
     ·exact .inl (.inl hk')
     ·exact (c5 k hk').imp .inr id
    ·rw [← sw]
     refine ih _ _ _ _ hfr' c6 (wan' v) (run' v) (Below.refl _ _) ?_ hN ?_
     ·rw [c3 b hN hbs hlt1];exact hb1
     ·intro hbb
      rcases c5 b hbb with h5|h5
      ·exact hbs h5
      ·omega
   | make =>
    simp only [hk] at h1 ⊢
    obtain ⟨mk,obi,e1,e2⟩:=h1
    refine ⟨mk,obi,fun w1 hw1=>?_,fun b' w1 hw1 hb' hN' hbs'=>?_⟩
    ·rw [(same_of_put (u:=V) hap hsi).1];exact e1 w1 hw1
    ·have hlt:b<w'.heap.size:=(Array.getElem?_eq_some_iff.1 hb).1
     have e3:=e2 b' w1 (hgr.trans (hw1.mono hgr.size)) hb' hN' (fun h=>hbs' (.inr h))
     rw [← sw,swapB]
     refine ih _ _ _ _ hfr' e3 (wan' _) (run' _) (Below.refl _ _) ?_ hN ?_
     ·rw [hw1.block b hlt];exact hb
     ·rintro (h|h)
      ·exact hbs' (.inl h.symm)
      ·exact hbs h
  ·rw [if_neg hwi] at h1 ⊢
   rw [← sw]
   exact ih _ _ _ _ hfr' h1 (wan' _) (run' _) hgr hb hN hbs
theorem WX_reach (hsel:NoSel ops) (hG:Grows C N) {j:Nat} {oj:Oper} (hj:ops[j]?=some oj) (l2:List Nat) :
  ∀ (l1:List Nat) (bs:Nat → Prop) (a:Act) (w:World),(∀ i ∈ l1,i<ops.size) → (∀ i ∈ l1,Free ops i j) → C w → (∀ k,bs k → k<w.heap.size) → WX P ops C N Q (l1 ++ j :: l2) bs a w →
   ∃ a' bs' w',C w'∧execOp a'.eval oj=execOp a.eval oj∧Region.wanted oj (yielded ops a'.tmps)=Region.wanted oj (yielded ops a.tmps)∧WX P ops C N Q (j :: l2) bs' a' w':=by
 intro l1
 induction l1 with
 | nil=>exact fun bs a w _ _ hC _ h=>⟨a,bs,w,hC,rfl,rfl,h⟩
 | cons i l1 ih =>
  intro bs a w hin hfr hC hbs h
  have hin':∀ i ∈ l1,i<ops.size:=fun x hx=>hin x (List.mem_cons_of_mem _ hx)
  have hfr':∀ i ∈ l1,Free ops i j:=fun x hx=>hfr x (List.mem_cons_of_mem _ hx)
  have hsj:=fun cs b=>hsel j oj cs b hj
  cases hi:ops[i]? with
  | none =>
   have:=hin i (List.mem_cons_self ..)
   rw [Array.getElem?_eq_getElem this] at hi
   cases hi
  | some oi =>
   have hap:=hfr i (List.mem_cons_self ..) oi oj hi hj
   have h1:=h oi hi
   have back:∀ v bs' w',C w' → (∀ k,bs' k → k<w'.heap.size) → WX P ops C N Q (l1 ++ j :: l2) bs' (a.put oi.dst v) w' →
     ∃ a' bs' w',C w'∧execOp a'.eval oj=execOp a.eval oj∧Region.wanted oj (yielded ops a'.tmps)=Region.wanted oj (yielded ops a.tmps)∧WX P ops C N Q (j :: l2) bs' a' w':=fun v bs' w' hC' hb' h'=>by
    obtain ⟨a',b',w'',e1,e2,e3,e4⟩:=ih bs' (a.put oi.dst v) w' hin' hfr' hC' hb' h'
    exact ⟨a',b',w'',e1,e2.trans (same_of_put' hap hsj).1,e3.trans (same_of_put' hap hsj).2,e4⟩
   unfold atX at h1
   by_cases hwi:Region.wanted oi (yielded ops a.tmps)=true
   ·rw [if_pos hwi] at h1
    unfold stepX at h1
    cases hk:opKind oi with
    | still=>simp only [hk] at h1;obtain ⟨v,e1,e2⟩:=h1;exact back v bs w hC hbs e2
    | act =>
     simp only [hk] at h1
     obtain ⟨v,w2,c1,c2,c3,bs',c4,c5,c6⟩:=(h1 w (Below.refl _ _)).some
     exact back v bs' w2 c1 (fun k hk'=>by rcases c5 k hk' with h5|h5;(have:=hbs k h5;omega);exact h5.2) c6
    | make =>
     simp only [hk] at h1
     obtain ⟨mk,ob,e1,e2⟩:=h1
     have hB:=hG.base w hC
     exact back _ _ (w.alloc ob) (hG.grow _ _ hC (alloc_below w ob)) (fun k hk'=>by rcases hk' with rfl|hk';simp;(have:=hbs k hk';simp;omega))
      (e2 w.heap.size (w.alloc ob) (alloc_below w ob) (heap_alloc_new w ob) hB (fun h=>by have:=hbs _ h;omega))
   ·rw [if_neg hwi] at h1
    exact back undef bs w hC hbs h1
theorem WX_still (hsel:NoSel ops) (hG:Grows C N) {j:Nat} {oj:Oper} {u:Value} (hj:ops[j]?=some oj) (l2:List Nat) :
  ∀ (l1:List Nat) (bs:Nat → Prop) (a:Act) (w:World),(∀ i ∈ l1,Free ops i j) → C w → WX P ops C N Q (l1 ++ j :: l2) bs a w →
   (opKind oj=.still∨Region.wanted oj (yielded ops a.tmps)=false) → YieldsC P ops C oj u a → WX P ops C N Q (l1 ++ l2) bs (a.put oj.dst u) w:=by
 intro l1
 induction l1 with
 | nil =>
  intro bs a w _ hC h hk hy
  have h1:=h oj hj
  unfold atX at h1
  by_cases hw:Region.wanted oj (yielded ops a.tmps)=true
  ·rw [if_pos hw] at h1
   have hk':opKind oj=.still:=hk.resolve_right (by rw [hw];simp)
   unfold stepX at h1
   simp only [hk'] at h1
   obtain ⟨v,e1,e2⟩:=h1
   have:YieldsC P ops C oj v a:=.inl ⟨hw,e1⟩
   rw [hy.unique hC this]
   exact e2
  ·rw [if_neg hw] at h1
   have:YieldsC P ops C oj undef a:=.inr ⟨by simpa using hw,rfl⟩
   rw [hy.unique hC this]
   exact h1
 | cons i l1 ih =>
  intro bs a w hfr hC h hk hy oi hi
  have hap:=hfr i (List.mem_cons_self ..) oi oj hi hj
  have hsi:=fun cs b=>hsel i oi cs b hi
  have hsj:=fun cs b=>hsel j oj cs b hj
  have hfr':∀ i ∈ l1,Free ops i j:=fun x hx=>hfr x (List.mem_cons_of_mem _ hx)
  have h1:=h oi hi
  have sw:∀ v,(a.put oi.dst v).put oj.dst u=(a.put oj.dst u).put oi.dst v:=fun v=>put_swap hap
  have go:∀ v bs' w',C w' → WX P ops C N Q (l1 ++ j :: l2) bs' (a.put oi.dst v) w' → WX P ops C N Q (l1 ++ l2) bs' ((a.put oj.dst u).put oi.dst v) w':=fun v bs' w' hC' h'=>by
   rw [← sw]
   exact ih bs' _ w' hfr' hC' h' (hk.imp id fun h=>by rw [(same_of_put' hap hsj).2];exact h) (hy.of_same (same_of_put' hap hsj).1 (same_of_put' hap hsj).2)
  unfold atX at h1 ⊢
  rw [(same_of_put (u:=u) hap hsi).2]
  by_cases hwi:Region.wanted oi (yielded ops a.tmps)=true
  ·rw [if_pos hwi] at h1 ⊢
   unfold stepX at h1 ⊢
   cases hki:opKind oi with
   | still =>
    simp only [hki] at h1 ⊢
    obtain ⟨v,e1,e2⟩:=h1
    refine ⟨v,fun w1 hw1=>?_,go _ _ _ hC e2⟩
    have:=e1 w1 hw1
    unfold stillAt at this ⊢
    rw [(same_of_put (u:=u) hap hsi).1]
    exact this
   | act =>
    simp only [hki] at h1 ⊢
    intro w1 hw1
    refine ((h1 w1 hw1).congr (same_of_put (u:=u) hap hsi).1).mono ?_
    rintro v w2 ⟨c1,c2,c3,bs',c4,c5,c6⟩
    exact ⟨c1,c2,c3,bs',c4,c5,go _ _ _ c1 c6⟩
   | make =>
    simp only [hki] at h1 ⊢
    obtain ⟨mk,ob,e1,e2⟩:=h1
    refine ⟨mk,ob,fun w1 hw1=>by rw [(same_of_put (u:=u) hap hsi).1];exact e1 w1 hw1,fun b w1 hw1 hb hN hbs=>?_⟩
    exact go _ _ _ (hG.grow _ _ hC hw1) (e2 b w1 hw1 hb hN hbs)
  ·rw [if_neg hwi] at h1 ⊢
   exact go _ _ _ hC h1
theorem WX_act (hsel:NoSel ops) {j:Nat} {oj:Oper} (hj:ops[j]?=some oj) (hkj:opKind oj=.act) (l2:List Nat) :
  ∀ (l1:List Nat) (bs:Nat → Prop) (a:Act) (w:World),(∀ i ∈ l1,i<ops.size) → (∀ i ∈ l1,Free ops i j) → (∀ i ∈ l1,∀ oi,ops[i]?=some oi → opKind oi=.still) → C w → WX P ops C N Q (l1 ++ j :: l2) bs a w →
   Region.wanted oj (yielded ops a.tmps)=true →
   ActAt P oj a w fun v w2=>C w2∧w.heap.size≤w2.heap.size∧∃ bs':Nat → Prop,(∀ k,bs' k → bs k∨(w.heap.size≤k∧k<w2.heap.size))∧WX P ops C N Q (l1 ++ l2) bs' (a.put oj.dst v) w2:=by
 intro l1
 induction l1 with
 | nil =>
  intro bs a w _ _ _ hC h hw
  have h1:=h oj hj
  unfold atX at h1
  rw [if_pos hw] at h1
  unfold stepX at h1
  simp only [hkj] at h1
  exact (h1 w (Below.refl _ _)).mono fun v w2 ⟨c1,c2,_,bs',_,c5,c6⟩=>⟨c1,c2,bs',c5,c6⟩
 | cons i l1 ih =>
  intro bs a w hin hfr hst hC h hw
  have hin':∀ i ∈ l1,i<ops.size:=fun x hx=>hin x (List.mem_cons_of_mem _ hx)
  have hi:ops[i]?=some (ops[i]'(hin i (List.mem_cons_self ..))):=Array.getElem?_eq_getElem _
  generalize ops[i]'(hin i (List.mem_cons_self ..))=oi at hi
  have hap:=hfr i (List.mem_cons_self ..) oi oj hi hj
  have hsi:=fun cs b=>hsel i oi cs b hi
  have hsj:=fun cs b=>hsel j oj cs b hj
  have hfr':∀ i ∈ l1,Free ops i j:=fun x hx=>hfr x (List.mem_cons_of_mem _ hx)
  have hst':∀ i ∈ l1,∀ oi,ops[i]?=some oi → opKind oi=.still:=fun x hx=>hst x (List.mem_cons_of_mem _ hx)
  have hki:=hst i (List.mem_cons_self ..) oi hi
  have h1:=h oi hi
  have key:∃ v,YieldsC P ops C oi v a∧WX P ops C N Q (l1 ++ j :: l2) bs (a.put oi.dst v) w:=by
   unfold atX at h1
   by_cases hwi:Region.wanted oi (yielded ops a.tmps)=true
   ·rw [if_pos hwi] at h1
    unfold stepX at h1
    simp only [hki] at h1
    obtain ⟨v,e1,e2⟩:=h1
    exact ⟨v,.inl ⟨hwi,e1⟩,e2⟩
   ·rw [if_neg hwi] at h1
    exact ⟨undef,.inr ⟨by simpa using hwi,rfl⟩,h1⟩
  obtain ⟨v,hy,h2⟩:=key
  have h3:=ih bs (a.put oi.dst v) w hin' hfr' hst' hC h2 (by rw [(same_of_put' hap hsj).2];exact hw)
  refine (h3.congr (same_of_put' hap hsj).1.symm).mono ?_
  rintro u w2 ⟨c1,c2,bs',c5,c6⟩
  refine ⟨c1,c2,bs',c5,fun o ho=>?_⟩
  rw [hi] at ho
  obtain rfl:=Option.some.inj ho
  have hy':=hy.fwd (u:=u) hap hsi
  rw [put_swap hap] at c6
  unfold atX stepX
  rcases hy' with ⟨q1,q2⟩|⟨q1,q2⟩
  ·rw [if_pos q1];simp only [hki];exact ⟨v,q2,c6⟩
  ·rw [if_neg (by rw [q1];simp)];rw [← q2];exact c6
def needsB (ops:Array Oper):Nat → Nat → Nat → Bool
 | 0,_,_=>false
 | f+1,j,i=>Region.waitsFor .any ops j i || (List.range ops.size).any fun p=>Region.waitsFor .any ops j p && needsB ops f p i
def Closed (ops:Array Oper) (listed:Array Bool):Prop :=
 ∀ j oj,ops[j]?=some oj → listed.getD j false=true → ∀ e ∈ oj.after,Region.binds .any e=true → listed.getD e.on false=true
theorem needs_listed {listed:Array Bool} (hc:Closed ops listed):∀ (f j i:Nat) (oj:Oper),ops[j]?=some oj → (∀ e ∈ oj.after,Region.binds .any e=true → listed.getD e.on false=true) → needsB ops f j i=true → listed.getD i false=true:=by
 intro f
 induction f with
 | zero=>intro j i oj _ _ h;cases h
 | succ f ih =>
  intro j i oj hj hall h
  have step:∀ p,Region.waitsFor .any ops j p=true → listed.getD p false=true:=fun p hp=>by
   obtain ⟨oj',hj',e,he,hb,hon⟩:=Region.waitsFor_spec hp
   obtain rfl:oj=oj':=Option.some.inj (hj.symm.trans hj')
   rw [← hon];exact hall e he hb
  simp only [needsB,Bool.or_eq_true,List.any_eq_true,Bool.and_eq_true] at h
  rcases h with h|⟨p,_,h1,h2⟩
  ·exact step i h
  ·have hp:=step p h1
   have hps:p<listed.size:=by
    rcases Nat.lt_or_ge p listed.size with h'|h'
    ·exact h'
    ·simp [Array.getElem?_eq_none h'] at hp
   cases hop:ops[p]? with
   | none =>
    cases f with
    | zero=>cases h2
    | succ f =>
     have no:∀ x,Region.waitsFor .any ops p x=false:=fun x=>by unfold Region.waitsFor;rw [hop]
     simp [needsB,no] at h2
   | some op=>exact ih p i op hop (hc p op hop hp) h2
def pairB (ops:Array Oper) (f i j:Nat):Bool :=
 decide (i ≠ j) && !Region.waitsFor .any ops i j &&
  (needsB ops f j i || (match ops[i]?,ops[j]? with
   | some oi,some oj=>oi.apart ops oj && (decide (opKind oj ≠ .act) || decide (opKind oi=.still))
   | _,_=>false))
def pairsB (ops:Array Oper) (f:Nat):List Nat → Bool
 | []=>true
 | i :: l=>l.all (pairB ops f i) && pairsB ops f l
theorem pairsB_spec {f:Nat}:∀ l:List Nat,pairsB ops f l=true → l.Pairwise fun i j=>pairB ops f i j=true
 | [],_=>List.Pairwise.nil
 | i :: l,h=>by
  simp only [pairsB,Bool.and_eq_true] at h
  exact List.Pairwise.cons (fun j hj=>List.all_eq_true.1 h.1 j hj) (pairsB_spec l h.2)
def soundB (ops:Array Oper) (ord:List Nat):Bool :=
 ord.all (fun i=>decide (i<ops.size) && !Region.waitsFor .any ops i i) && (List.range ops.size).all (fun i=>ord.contains i) && ops.all fun o=>o.after.all fun e=>!Region.binds .any e || decide (e.on<ops.size)
def actsB (ops:Array Oper) (f:Nat) (ord:List Nat):Bool:=Region.noSelect ops && pairsB ops f ord && soundB ops ord && decide (ord.length=ops.size)
theorem getD_set_iff {listed:Array Bool} {j k:Nat} (hj:j<listed.size):(listed.setIfInBounds j true).getD k true=false ↔ listed.getD k true=false∧k ≠ j:=by
 by_cases h:j=k
 ·subst h;simp [hj]
 ·rw [getD_set_ne true h];exact ⟨fun x=>⟨x,fun e=>h e.symm⟩,fun x=>x.1⟩
theorem WX_any (hsel:NoSel ops) (hG:Grows C N) (f:Nat) (hrange:∀ (j:Nat) (oj:Oper),ops[j]?=some oj → ∀ e ∈ oj.after,Region.binds .any e=true → e.on<ops.size) (hself:∀ j,j<ops.size → Region.waitsFor .any ops j j=false) :
  ∀ (n:Nat) (l:List Nat) (listed:Array Bool) (bs:Nat → Prop) (a:Act) (w:World),l.length=n → (l.Pairwise fun i j=>pairB ops f i j=true) → (∀ i ∈ l,i<ops.size) → listed.size=ops.size →
   (∀ k,k<ops.size → (listed.getD k true=false ↔ k ∈ l)) → Closed ops listed → C w → (∀ k,bs k → k<w.heap.size) → WX P ops C N Q l bs a w → wpAny P .any ops Q n listed a w:=by
 intro n
 induction n with
 | zero =>
  intro l listed bs a w hn _ _ hsz hun _ _ _ h
  have hl:l=[]:=List.eq_nil_of_length_eq_zero hn
  subst hl
  refine ⟨List.eq_nil_iff_forall_not_mem.2 fun j hj=>?_,h⟩
  obtain ⟨h1,o,ho,_⟩:=mem_ready.1 hj
  have:=(hun j (Array.getElem?_eq_some_iff.1 ho).1).1 h1
  cases this
 | succ n ih =>
  intro l listed bs a w hn hp hin hsz hun hcl hC hbs h
  refine ⟨fun h0=>?_,fun j hj=>?_⟩
  ·-- the first operation of the walk is ready
   match l,hn with
   | i :: l,_ =>
    have hi:=hin i (List.mem_cons_self ..)
    have hi':ops[i]?=some ops[i]:=Array.getElem?_eq_getElem _
    have hr:i ∈ Region.ready .any ops listed:=by
     refine mem_ready.2 ⟨(hun i hi).2 (List.mem_cons_self ..),_,hi',fun e he hb=>?_⟩
     have hes:=hrange i _ hi' e he hb
     have hw:Region.waitsFor .any ops i e.on=true:=by
      unfold Region.waitsFor;rw [hi']
      exact Array.any_eq_true'.2 ⟨e,he,by simp [hb]⟩
     have hnm:e.on ∉ i :: l:=by
      intro hm
      rcases List.mem_cons.1 hm with hm|hm
      ·rw [hm,hself i hi] at hw;cases hw
      ·have:=(List.pairwise_cons.1 hp).1 e.on hm
       simp [pairB,hw] at this
     have hes':e.on<listed.size:=by omega
     cases hg:listed.getD e.on false with
     | true=>rfl
     | false=>exact absurd ((hun e.on hes).1 (getD_in hes' hg)) hnm
    rw [h0] at hr
    cases hr
  ·obtain ⟨hjun,oj,hoj,hall⟩:=mem_ready.1 hj
   have hjs:j<ops.size:=(Array.getElem?_eq_some_iff.1 hoj).1
   have hjl:=(hun j hjs).1 hjun
   obtain ⟨s,t,rfl⟩:=List.append_of_mem hjl
   have hsl:s.length+t.length=n:=by simp at hn;omega
   have hpair:∀ i ∈ s,pairB ops f i j=true:=fun i hi=>(List.pairwise_append.1 hp).2.2 i hi j (List.mem_cons_self ..)
   have hins:∀ i ∈ s,i<ops.size:=fun i hi=>hin i (List.mem_append_left _ hi)
   have hno:∀ i ∈ s,needsB ops f j i=false:=fun i hi=>by
    cases hnb:needsB ops f j i with
    | false=>rfl
    | true =>
     have h1:=needs_listed hcl f j i oj hoj hall hnb
     have h2:=(hun i (hins i hi)).2 (List.mem_append_left _ hi)
     rw [getD_both h2] at h1
     cases h1
   have hsp:∀ i ∈ s,∀ oi,ops[i]?=some oi → oi.apart ops oj=true∧(opKind oj ≠ .act∨opKind oi=.still):=fun i hi oi hoi=>by
    have h1:=hpair i hi
    simp only [pairB,hno i hi,hoi,hoj,Bool.false_or,Bool.and_eq_true,Bool.or_eq_true,decide_eq_true_eq] at h1
    exact h1.2
   have hfr:∀ i ∈ s,Free ops i j:=fun i hi oi oj' hoi hoj'=>by
    obtain rfl:oj=oj':=Option.some.inj (hoj.symm.trans hoj')
    exact (hsp i hi oi hoi).1
   have hnd:j ∉ s ++ t:=by
    intro hm
    rcases List.mem_append.1 hm with hm|hm
    ·have:=hpair j hm;simp [pairB] at this
    ·have:=(List.pairwise_cons.1 (List.pairwise_append.1 hp).2.1).1 j hm;simp [pairB] at this
   have hjsz:j<listed.size:=by omega
   have next:∀ bs' a' w',C w' → (∀ k,bs' k → k<w'.heap.size) → WX P ops C N Q (s ++ t) bs' a' w' → wpAny P .any ops Q n (listed.setIfInBounds j true) a' w':=fun bs' a' w' hC' hb' h'=>by
    refine ih (s ++ t) _ bs' a' w' (by simp;omega) ?_ ?_ (by simpa using hsz) (fun k hk=>?_) ?_ hC' hb' h'
    ·refine List.Pairwise.sublist ?_ hp
     exact List.Sublist.append_left (List.sublist_cons_self j t) s
    ·intro i hi;exact hin i (by rcases List.mem_append.1 hi with h|h;exact List.mem_append_left _ h;exact List.mem_append_right _ (List.mem_cons_of_mem _ h))
    ·rw [getD_set_iff hjsz,hun k hk]
     constructor
     ·rintro ⟨h1,h2⟩
      rcases List.mem_append.1 h1 with h1|h1
      ·exact List.mem_append_left _ h1
      ·rcases List.mem_cons.1 h1 with h1|h1
       ·exact absurd h1 h2
       ·exact List.mem_append_right _ h1
     ·intro h1
      refine ⟨?_,fun e=>hnd (e ▸ h1)⟩
      rcases List.mem_append.1 h1 with h1|h1
      ·exact List.mem_append_left _ h1
      ·exact List.mem_append_right _ (List.mem_cons_of_mem _ h1)
    ·intro k ok hok hlk e he hb
     by_cases hkj:j=k
     ·subst hkj
      obtain rfl:ok=oj:=Option.some.inj (hok.symm.trans hoj)
      exact getD_set_true (hall e he hb)
     ·rw [getD_set_ne false hkj] at hlk
      exact getD_set_true (hcl k ok hok hlk e he hb)
   unfold wpOp
   simp only [hoj]
   by_cases hw:Region.wanted oj (yielded ops a.tmps)=true
   ·rw [if_pos hw]
    left
    cases hk:opKind oj with
    | still =>
     obtain ⟨a',bs',w',hC',e1,e2,h1⟩:=WX_reach hsel hG hoj t s bs a w hins hfr hC hbs h
     have h2:=h1 oj hoj
     unfold atX stepX at h2
     rw [if_pos (by rw [e2];exact hw)] at h2
     simp only [hk] at h2
     obtain ⟨v,h3,_⟩:=h2
     have hy:YieldsC P ops C oj v a:=.inl ⟨hw,fun w1 hw1=>by have:=h3 w1 hw1;unfold stillAt at this ⊢;rw [← e1];exact this⟩
     have h4:=WX_still hsel hG hoj t s bs a w hfr hC h (.inl hk) hy
     refine wp_of_gOp (C:=C) (K:=fun a' w'=>WX P ops C N Q (s ++ t) bs a' w'∧w'=w) hC (fun a' w' hC' h5=>next bs a' w' hC' (by rw [h5.2];exact hbs) h5.1) (.inl ⟨v,(hy.resolve_right fun hh=>by rw [hh.1] at hw;cases hw).2,h4,rfl⟩)
    | act =>
     have h1:=WX_act hsel hoj hk t s bs a w hins hfr (fun i hi oi hoi=>((hsp i hi oi hoi).2).resolve_left (by simp [hk])) hC h hw
     exact h1.wp fun v w2 ⟨c1,c2,bs',c5,c6⟩=>next bs' _ w2 c1 (fun k hk'=>by rcases c5 k hk' with h5|h5;(have:=hbs k h5;omega);exact h5.2) c6
    | make =>
     obtain ⟨a',bs',w',hC',e1,e2,h1⟩:=WX_reach hsel hG hoj t s bs a w hins hfr hC hbs h
     have h2:=h1 oj hoj
     unfold atX stepX at h2
     rw [if_pos (by rw [e2];exact hw)] at h2
     simp only [hk] at h2
     obtain ⟨mk,ob,h3,_⟩:=h2
     have h4:=h3 w hC
     rw [e1] at h4
     have hB:=hG.base w hC
     have h5:=WX_resolve hsel hoj hk hC rfl t s bs a w (w.alloc ob) hfr h hw h4 (alloc_below w ob) (heap_alloc_new w ob) hB (fun hh=>by have:=hbs _ hh;omega)
     unfold Oper.wp
     rw [h4,Oper.upon_value]
     exact next _ _ _ (hG.grow _ _ hC (alloc_below w ob)) (fun k hk'=>by rcases hk' with rfl|hk';simp;(have:=hbs k hk';simp;omega)) h5
   ·rw [if_neg hw]
    have hy:YieldsC P ops C oj undef a:=.inr ⟨by simpa using hw,rfl⟩
    exact next bs _ w hC hbs (WX_still hsel hG hoj t s bs a w hfr hC h (.inr (by simpa using hw)) hy)
theorem region_acts {id:Nat} {a:Act} {w:World} {l:List Oper} (f:Nat) (ord:List Nat) (hm:P.follows .mixedOrders=true) (hB:actsB l.toArray f ord=true)
  (hG:Grows C N) (hC:C w.drew) (h:WX P l.toArray C N Q ord (fun _=>False) a w.drew):(Code.region id l.toArray true).wp P Q a w:=by
 simp only [actsB,Bool.and_eq_true,decide_eq_true_eq] at hB
 obtain ⟨⟨⟨hsel,hpairs⟩,hsound⟩,hlen⟩:=hB
 simp only [soundB,Bool.and_eq_true,List.all_eq_true,decide_eq_true_eq,Bool.not_eq_true',List.mem_range,List.contains_iff_mem] at hsound
 obtain ⟨⟨h1,h2⟩,h3⟩:=hsound
 refine wp_region_any hm ?_
 rw [← hlen]
 refine WX_any (Region.noSelect_spec hsel) hG f (fun j oj hj e he hb=>?_) (fun j hj=>(h1 j (h2 j hj)).2) ord.length ord _ (fun _=>False) a _ rfl (pairsB_spec ord hpairs) (fun i hi=>(h1 i hi).1) (by simpa using hlen) (fun k hk=>?_) (fun j oj _ hl=>?_) hC (fun k hk=>hk.elim) h
 ·have h4:=Array.all_eq_true'.1 h3 oj (Array.mem_of_getElem? hj)
  have h5:=Array.all_eq_true'.1 h4 e he
  simpa [hb] using h5
 ·exact ⟨fun _=>h2 k hk,fun _=>by rw [getD_in (by simpa [hlen] using hk) (getD_replicate_false _ _)]⟩
 ·rw [getD_replicate_false] at hl;cases hl
structure Exc (T:Nat → Prop) (w w':World):Prop where
 os:w'.os=w.os
 tape:w'.tape=w.tape
 output:w'.output=w.output
 size:w.heap.size≤w'.heap.size
 block:∀ k,k<w.heap.size → ¬ T k → w'.heap[k]?=w.heap[k]?
theorem Exc.refl (T:Nat → Prop) (w:World):Exc T w w:=⟨rfl,rfl,rfl,Nat.le_refl _,fun _ _ _=>rfl⟩
theorem Exc.below {T:Nat → Prop} {w0 w w':World} (h:Exc T w0 w) (hb:Below w.heap.size w w'):Exc T w0 w' :=
 ⟨hb.os.trans h.os,hb.tape.trans h.tape,hb.output.trans h.output,Nat.le_trans h.size hb.size,fun k hk ht=>(hb.block k (Nat.lt_of_lt_of_le hk h.size)).trans (h.block k hk ht)⟩
theorem Exc.grows (T:Nat → Prop) (w0:World):Grows (Exc T w0) w0.heap.size:=⟨fun _ _ h hb=>h.below hb,fun _ h=>h.size⟩
theorem Exc.cell {T:Nat → Prop} {w0 w:World} (h:Exc T w0 w):(∀ b o,b<w0.heap.size → ¬ T b → w.cell? ⟨b,o,none⟩=w0.cell? ⟨b,o,none⟩)∧(∀ b o,b<w0.heap.size → ¬ T b → w.frozen? ⟨b,o,none⟩=w0.frozen? ⟨b,o,none⟩) :=
 ⟨fun b o hb ht=>World.cell?_of_block (w:=w0) (h.block b hb ht),fun b o hb ht=>World.frozen?_of_block (w:=w0) (h.block b hb ht)⟩
def NoT:Nat → Prop:=fun _=>False
theorem Exc.toBelow {w0 w:World} (h:Exc NoT w0 w):Below w0.heap.size w0 w:=⟨h.os,h.tape,h.output,h.size,fun k hk=>h.block k hk (fun h=>h)⟩
theorem Below.exc {T:Nat → Prop} {w0 w:World} (h:Below w0.heap.size w0 w):Exc T w0 w:=(Exc.refl T w0).below h
theorem x_nil {bs:Nat → Prop} {a:Act} {w:World} (h:Q .normal a w):WX P ops C N Q [] bs a w:=h
theorem x_still {i:Nat} {l:List Nat} {bs:Nat → Prop} {a:Act} {w:World} {o:Oper} (ho:ops[i]?=some o) (hk:opKind o=.still) (hg:o.guard=none)
  (h:∀ K:(Nat → Prop) → Act → World → Prop,(∀ bs a w,WX P ops C N Q l bs a w → K bs a w) → ∃ v,(∀ w',C w' → (execOp a.eval o).run P w'=.ok (.value v) w')∧K bs (a.put o.dst v) w):WX P ops C N Q (i :: l) bs a w:=by
 intro o' ho'
 rw [ho] at ho'
 obtain rfl:=Option.some.inj ho'
 obtain ⟨v,h1,h2⟩:=h _ fun _ _ _ h=>h
 unfold atX stepX
 rw [if_pos (by simp [Region.wanted,hg])]
 simp only [hk]
 exact ⟨v,fun w' hw'=>.inl (h1 w' hw'),h2⟩
theorem x_sT {T:Nat → Prop} {w0:World} {i:Nat} {l:List Nat} {bs:Nat → Prop} {a:Act} {w:World} {o:Oper} {v:Value} (ho:ops[i]?=some o) (hk:opKind o=.still) (hg:o.guard=none)
  (h1:∀ w',(∀ b o,b<w0.heap.size → ¬ T b → w'.cell? ⟨b,o,none⟩=w0.cell? ⟨b,o,none⟩) → (∀ b o,b<w0.heap.size → ¬ T b → w'.frozen? ⟨b,o,none⟩=w0.frozen? ⟨b,o,none⟩) → (execOp a.eval o).run P w'=.ok (.value v) w')
  (h:∀ K:(Nat → Prop) → Act → World → Prop,(∀ bs a w,WX P ops (Exc T w0) N Q l bs a w → K bs a w) → K bs (a.put o.dst v) w):WX P ops (Exc T w0) N Q (i :: l) bs a w :=
 x_still ho hk hg fun K hK=>⟨v,fun w' hw'=>h1 w' hw'.cell.1 hw'.cell.2,h K hK⟩
theorem x_st {w0:World} {i:Nat} {l:List Nat} {bs:Nat → Prop} {a:Act} {w:World} {o:Oper} {v:Value} (ho:ops[i]?=some o) (hk:opKind o=.still) (hg:o.guard=none)
  (h1:∀ w',(∀ b o,b<w0.heap.size → w'.cell? ⟨b,o,none⟩=w0.drew.cell? ⟨b,o,none⟩) → (∀ b o,b<w0.heap.size → w'.frozen? ⟨b,o,none⟩=w0.drew.frozen? ⟨b,o,none⟩) → (execOp a.eval o).run P w'=.ok (.value v) w')
  (h:∀ K:(Nat → Prop) → Act → World → Prop,(∀ bs a w,WX P ops (Exc NoT w0.drew) N Q l bs a w → K bs a w) → K bs (a.put o.dst v) w):WX P ops (Exc NoT w0.drew) N Q (i :: l) bs a w :=
 x_still ho hk hg fun K hK=>⟨v,fun w' hw'=>h1 w' (fun b o hb=>hw'.cell.1 b o (by simpa using hb) (fun h=>h)) (fun b o hb=>hw'.cell.2 b o (by simpa using hb) (fun h=>h)),h K hK⟩
theorem x_skip {i:Nat} {l:List Nat} {bs:Nat → Prop} {a:Act} {w:World} {o:Oper} (ho:ops[i]?=some o)
  (h:∀ K:(Nat → Prop) → Act → World → Prop,(∀ bs a w,WX P ops C N Q l bs a w → K bs a w) → Region.wanted o (yielded ops a.tmps)=false∧K bs (a.put o.dst undef) w):WX P ops C N Q (i :: l) bs a w:=by
 intro o' ho'
 rw [ho] at ho'
 obtain rfl:=Option.some.inj ho'
 obtain ⟨h1,h2⟩:=h _ fun _ _ _ h=>h
 unfold atX
 rw [if_neg (by rw [h1];simp)]
 exact h2
theorem x_stillg {i:Nat} {l:List Nat} {bs:Nat → Prop} {a:Act} {w:World} {o:Oper} (ho:ops[i]?=some o) (hk:opKind o=.still)
  (h:∀ K:(Nat → Prop) → Act → World → Prop,(∀ bs a w,WX P ops C N Q l bs a w → K bs a w) → Region.wanted o (yielded ops a.tmps)=true∧∃ v,(∀ w',C w' → (execOp a.eval o).run P w'=.ok (.value v) w')∧K bs (a.put o.dst v) w):WX P ops C N Q (i :: l) bs a w:=by
 intro o' ho'
 rw [ho] at ho'
 obtain rfl:=Option.some.inj ho'
 obtain ⟨hw,v,h1,h2⟩:=h _ fun _ _ _ h=>h
 unfold atX stepX
 rw [if_pos hw]
 simp only [hk]
 exact ⟨v,fun w' hw'=>.inl (h1 w' hw'),h2⟩
theorem x_callg {i:Nat} {l:List Nat} {bs:Nat → Prop} {a:Act} {w:World} {o:Oper} (ho:ops[i]?=some o) (hk:opKind o=.act) (hG:Grows C N) (hC:C w) (f:FuncId)
  (h:∀ K:(Nat → Prop) → Act → World → Prop,(∀ bs a w,WX P ops C N Q l bs a w → K bs a w) → Region.wanted o (yielded ops a.tmps)=true∧∃ args,(∀ w',C w' → (execOp a.eval o).run P w'=.ok (.enter f args) w') ∧
   ∀ w1,C w1 → Below w.heap.size w w1 → Calls P f args w1 fun e w2=>∃ v,e=.returned v∧Below w1.heap.size w1 w2∧(C w2 → K bs (a.put o.dst v) w2)):WX P ops C N Q (i :: l) bs a w:=by
 intro o' ho'
 rw [ho] at ho'
 obtain rfl:=Option.some.inj ho'
 obtain ⟨hw,args,h1,h2⟩:=h _ fun _ _ _ h=>h
 unfold atX stepX
 rw [if_pos hw]
 simp only [hk]
 intro w1 hw1
 have hC1:=hG.grow _ _ hC hw1
 unfold ActAt
 rw [h1 w1 hC1]
 refine (h2 w1 hC1 hw1).mono ?_
 rintro e w2 ⟨v,e1,e2,e3⟩
 exact ⟨v,e1,hG.grow _ _ hC1 e2,e2.size,fun k _ _ hk=>e2.block k hk,bs,fun _ h=>h,fun _ h=>.inl h,e3 (hG.grow _ _ hC1 e2)⟩
theorem x_call {i:Nat} {l:List Nat} {bs:Nat → Prop} {a:Act} {w:World} {o:Oper} (ho:ops[i]?=some o) (hk:opKind o=.act) (hg:o.guard=none) (hG:Grows C N) (hC:C w) (f:FuncId)
  (h:∀ K:(Nat → Prop) → Act → World → Prop,(∀ bs a w,WX P ops C N Q l bs a w → K bs a w) → ∃ args,(∀ w',C w' → (execOp a.eval o).run P w'=.ok (.enter f args) w') ∧
   ∀ w1,C w1 → Below w.heap.size w w1 → Calls P f args w1 fun e w2=>∃ v,e=.returned v∧Below w1.heap.size w1 w2∧(C w2 → K bs (a.put o.dst v) w2)):WX P ops C N Q (i :: l) bs a w :=
 x_callg ho hk hG hC f fun K hK=>⟨by simp [Region.wanted,hg],h K hK⟩
theorem x_do {i:Nat} {l:List Nat} {bs:Nat → Prop} {a:Act} {w:World} {o:Oper} (ho:ops[i]?=some o) (hk:opKind o=.act) (hg:o.guard=none) (hG:Grows C N) (hC:C w)
  (h:∀ K:(Nat → Prop) → Act → World → Prop,(∀ bs a w,WX P ops C N Q l bs a w → K bs a w) → ∀ w1,C w1 → Below w.heap.size w w1 → ∃ w2,(execOp a.eval o).run P w1=.ok .skip w2 ∧
   (C w2∧w1.heap.size≤w2.heap.size∧∀ k,N≤k → ¬ bs k → k<w1.heap.size → w2.heap[k]?=w1.heap[k]?)∧K bs (a.put o.dst undef) w2):WX P ops C N Q (i :: l) bs a w:=by
 intro o' ho'
 rw [ho] at ho'
 obtain rfl:=Option.some.inj ho'
 unfold atX stepX
 rw [if_pos (by simp [Region.wanted,hg])]
 simp only [hk]
 intro w1 hw1
 obtain ⟨w2,h1,⟨h2,h3,h4⟩,h5⟩:=h _ (fun _ _ _ h=>h) w1 (hG.grow _ _ hC hw1) hw1
 unfold ActAt
 rw [h1]
 exact ⟨h2,h3,h4,bs,fun _ h=>h,fun _ h=>.inl h,h5⟩
theorem x_make {i:Nat} {l:List Nat} {bs:Nat → Prop} {a:Act} {w:World} {o:Oper} (ho:ops[i]?=some o) (hk:opKind o=.make) (hg:o.guard=none) (hG:Grows C N) (hC:C w) (mk:Nat → Value)
  (h:∀ K:(Nat → Prop) → Act → World → Prop,(∀ bs a w,WX P ops C N Q l bs a w → K bs a w) → ∃ ob,(∀ w',C w' → (execOp a.eval o).run P w'=.ok (.value (mk w'.heap.size)) (w'.alloc ob)) ∧
   ∀ b w',C w' → Below w.heap.size w w' → w'.heap[b]?=some ob → N≤b → ¬ bs b → K (fun k=>k=b∨bs k) (a.put o.dst (mk b)) w'):WX P ops C N Q (i :: l) bs a w:=by
 intro o' ho'
 rw [ho] at ho'
 obtain rfl:=Option.some.inj ho'
 obtain ⟨ob,h1,h2⟩:=h _ fun _ _ _ h=>h
 unfold atX stepX
 rw [if_pos (by simp [Region.wanted,hg])]
 simp only [hk]
 exact ⟨mk,ob,h1,fun b w' hw' hb hN hbs=>h2 b w' (hG.grow _ _ hC hw') hw' hb hN hbs⟩
theorem made_cell {w:World} {b:Nat} {cs:Array Value} {t:TypeId} (h:w.heap[b]?=some (.cells cs t)):(∀ o,w.cell? ⟨b,o,none⟩=cs[o]?)∧(∀ o,w.frozen? ⟨b,o,none⟩=false)∧b<w.heap.size :=
 ⟨fun o=>cell_of_row w b o cs t (0,0) h,fun o=>frozen_of_row w b o cs t h,(Array.getElem?_eq_some_iff.1 h).1⟩
theorem exc_set {T:Nat → Prop} {w0 w:World} (h:Exc T w0 w) {a:Addr} (ha:w0.heap.size≤a.block∨T a.block) (u:Value):Exc T w0 (w.setCell a u) :=
 ⟨h.os,h.tape,h.output,by simpa [World.setCell] using h.size,fun k hk ht=>by
  rw [Below.heap_setCell _ _ _ _ (by rintro rfl;rcases ha with ha|ha;omega;exact ht ha)];exact h.block k hk ht⟩
end
end Go.Proofs.YtbljmfcifljkaaaGreatDoor
/-
  Append steps of the walk of a drawn region (Acts). Own work.
-/
namespace Go.Proofs.YtbljmfcifljkaaaGreatDoor
open Go.RowKit
section
variable {P:Program} {ops:Array Oper} {Q:Exit → Act → World → Prop} {T:Nat → Prop} {w0:World}
theorem Exc.grown {w w':World} {row:Option Nat} (h:Exc T w0 w) (hg:w.grownBy w' row) (hr:∀ k,row=some k → w0.heap.size≤k∨T k):Exc T w0 w' :=
 ⟨hg.os.trans h.os,hg.tape.trans h.tape,hg.output.trans h.output,Nat.le_trans h.size hg.size,fun k hk ht=>by
  rw [hg.block k (Nat.lt_of_lt_of_le hk h.size) (fun e=>by rcases hr k e.symm with h'|h';omega;exact ht h')];exact h.block k hk ht⟩
theorem x_fits {i:Nat} {l:List Nat} {bs:Nat → Prop} {a:Act} {w:World} {o:Oper} (ho:ops[i]?=some o) (hk:opKind o=.act) (hg:o.guard=none) (hC:Exc T w0 w) (s x:Operand) (t:TypeId)
  (hop:o.op=Op.call { callee:=Callee.builtin Builtin.append,args:=#[s,x],argTypes:=#[t,t] })
  (base:Nat) (e:TypeId) (inf:TypeInfo) (size:Nat) (h1:P.underlying t=some (.slice e)) (h2:P.info? e=some inf) (h4:inf.size=size)
  (g n cap:Nat) (xs:List Value) (hs:a.eval s=.slice (some ⟨g,0,none⟩) n cap) (hgN:g<w0.heap.size) (hT:T g) (ad:Addr) (m c:Nat) (news:List Value) (hx:a.eval x=.slice (some ad) m c) (hn:news.length=m * size)
  (h1c:∀ u ∈ news,u.oneCell'=true) (b1:n+m≤cap)
  (H:∀ w1,Exc T w0 w1 → Below w.heap.size w w1 → w1.ownsRow base e size (.slice (some ⟨g,0,none⟩) n cap) n xs∧(∀ j u,news[j]?=some u → w1.cell? (ad.add j)=some u))
  (h:∀ K:(Nat → Prop) → Act → World → Prop,(∀ bs a w,WX P ops (Exc T w0) w0.heap.size Q l bs a w → K bs a w) → ∀ w1 w2,Exc T w0 w1 → Below w.heap.size w w1 →
   w2.ownsRow base e size (.slice (some ⟨g,0,none⟩) (n+m) cap) (n+m) (xs ++ news) → w1.grownBy w2 (some g) → Exc T w0 w2 → K bs (a.put o.dst (.slice (some ⟨g,0,none⟩) (n+m) cap)) w2) :
  WX P ops (Exc T w0) w0.heap.size Q (i :: l) bs a w:=by
 intro o' ho'
 rw [ho] at ho'
 obtain rfl:=Option.some.inj ho'
 unfold atX stepX
 rw [if_pos (by simp [Region.wanted,hg])]
 simp only [hk]
 intro w1 hw1
 have hC1:=hC.below hw1
 obtain ⟨ha,hb⟩:=H w1 hC1 hw1
 obtain ⟨w2,hrun,r1,r2⟩:=run_append_fits (P:=P) w1 base t o.type e inf size h1 h2 h4 g n cap xs ha ad m c news hn hb h1c b1
 have hr:(execOp a.eval o).run P w1=.ok (.value (.slice (some ⟨g,0,none⟩) (n+m) cap)) w2:=by
  simp [execOp,hop,resolve,invoke,builtin,hs,hx,hrun,Result.andThen]
 unfold ActAt
 rw [hr]
 have hC2:Exc T w0 w2:=hC1.grown r2 (fun k hk=>by cases hk;exact .inr hT)
 exact ⟨hC2,r2.size,fun k hN _ hlt=>r2.block k hlt (fun e=>by cases e;omega),bs,fun _ h=>h,fun _ h=>.inl h,h _ (fun _ _ _ h=>h) w1 w2 hC1 hw1 r1 r2 hC2⟩
end
end Go.Proofs.YtbljmfcifljkaaaGreatDoor
/-
  Append of whatever source (nil too) to an owned row: the run, outside a drawn region and inside one. Own work.
-/
namespace Go.Proofs.YtbljmfcifljkaaaGreatDoor
open Go.RowKit
def SrcAt (w:World) (sz:Nat) (x:Value) (m:Nat) (news:List Value):Prop :=
 news.length=m * sz∧((m=0∧∃ c,x=.slice none 0 c)∨∃ ad c,x=.slice (some ad) m c∧∀ j u,news[j]?=some u → w.cell? (ad.add j)=some u)
theorem run_append_src {P:Program} (w:World) (base:Nat) (t ty e:TypeId) (i:TypeInfo) (z:Value) (size bytes:Nat) (ht:P.underlying t=some (.slice e)) (hi:P.info? e=some i) (hz:i.zero=some z)
  (hsize:i.size=size) (hby:i.bytes=bytes) (hzs:z.cells.size=size) (hsz:0<size)
  (v:Value) (n:Nat) (xs:List Value) (hown:w.ownsRow base e size v n xs) (x:Value) (m:Nat) (news:List Value) (hx:SrcAt w size x m news) (h1:∀ u ∈ news,u.oneCell'=true)
  (h63:n+m≤maxLen) (hbytes:(n+m) * bytes≤140737488355328) (hbase:base≤w.heap.size) :
  ∃ v' w',(Builtin.append_ #[t,t] ty #[v,x]).run P w=.ok v' w'∧w'.ownsRow base e size v' (n+m) (xs ++ news)∧w.grownBy w' v.ownBlock∧(v'.ownBlock=v.ownBlock∨v'.ownBlock=some w.heap.size):=by
 obtain ⟨hl,hx⟩:=hx
 rcases hx with ⟨rfl,c,rfl⟩|⟨ad,c,rfl,hc⟩
 ·have hn:news=[]:=List.eq_nil_of_length_eq_zero (by simpa using hl)
  subst hn
  have hgr:w.grownBy w v.ownBlock:=⟨rfl,rfl,rfl,Nat.le_refl _,fun _ _ _=>rfl⟩
  rcases hown.2 with ⟨rfl,rfl⟩|⟨g,cap,cur,rfl,hbg,hg,hnc,hcm,hcs,htake⟩
  ·refine ⟨.slice none 0 0,w,?_,by simpa using hown,hgr,.inl rfl⟩
   simp [Builtin.append_,run_underlying ht,sizeOf,typeInfo,hi,Builtin.lenOf,Builtin.firstCells]
  ·refine ⟨_,w,?_,by simpa using hown,hgr,.inl rfl⟩
   simp [Builtin.append_,run_underlying ht,sizeOf,typeInfo,hi,Builtin.lenOf,Builtin.firstCells,hnc,storeCells]
 ·obtain ⟨v',w',r1,r2,r3,_,r5⟩:=run_append_own_at (P:=P) w base t ty e i z size bytes ht hi hz hsize hby hzs hsz v n xs hown ad m c news hl hc h1 h63 hbytes hbase
  exact ⟨v',w',r1,r2,r3,r5⟩
theorem wpList_append_src {P:Program} {w:World} {ops:Array Oper} {rest:List Oper} {o:Oper} {a:Act} {Q:Exit → Act → World → Prop} (hgd:o.guard=none) (s x:Operand) (t:TypeId)
  (ho:o.op=.call { callee:=.builtin .append,args:=#[s,x],argTypes:=#[t,t] })
  (base:Nat) (e:TypeId) (i:TypeInfo) (z:Value) (size bytes:Nat) (ht:P.underlying t=some (.slice e)) (hi:P.info? e=some i) (hz:i.zero=some z)
  (hsize:i.size=size) (hby:i.bytes=bytes) (hzs:z.cells.size=size) (hsz:0<size)
  (v:Value) (n:Nat) (xs:List Value) (hs:a.eval s=v) (hown:w.ownsRow base e size v n xs) (u:Value) (m:Nat) (news:List Value) (hu:a.eval x=u) (hx:SrcAt w size u m news) (h1:∀ u ∈ news,u.oneCell'=true)
  (h63:n+m≤maxLen) (hbytes:(n+m) * bytes≤140737488355328) (hbase:base≤w.heap.size)
  (h:∀ v' w',w'.ownsRow base e size v' (n+m) (xs ++ news) → w.grownBy w' v.ownBlock → (v'.ownBlock=v.ownBlock∨v'.ownBlock=some w.heap.size) → wpList P ops Q rest (a.put o.dst v') w'):wpList P ops Q (o :: rest) a w:=by
 refine wpList_plain hgd fun K hK=>?_
 obtain ⟨v',w',hr,r2,r3,r5⟩:=run_append_src (P:=P) w base t o.type e i z size bytes ht hi hz hsize hby hzs hsz v n xs hown u m news hx h1 h63 hbytes hbase
 unfold Oper.wp execOp
 simp only [ho,resolve,invoke,builtin,Sem.run_bind,Sem.run_pure,Result.andThen_ok,List.map_toArray,List.map_cons,List.map_nil,hs,hu,hr]
 exact hK _ _ (h v' w' r2 r3 r5)
section
variable {P:Program} {ops:Array Oper} {Q:Exit → Act → World → Prop} {T:Nat → Prop} {w0:World}
def more (bs:Nat → Prop) (w1 w2:World):Nat → Prop:=fun k=>bs k∨(w1.heap.size≤k∧k<w2.heap.size)
theorem x_src {i:Nat} {l:List Nat} {bs:Nat → Prop} {a:Act} {w:World} {o:Oper} (ho:ops[i]?=some o) (hk:opKind o=.act) (hg:o.guard=none) (hC:Exc T w0 w) (s x:Operand) (t:TypeId)
  (hop:o.op=Op.call { callee:=Callee.builtin Builtin.append,args:=#[s,x],argTypes:=#[t,t] })
  (base:Nat) (e:TypeId) (inf:TypeInfo) (z:Value) (size bytes:Nat) (h1:P.underlying t=some (.slice e)) (h2:P.info? e=some inf) (hz:inf.zero=some z)
  (hsize:inf.size=size) (hby:inf.bytes=bytes) (hzs:z.cells.size=size) (hsz:0<size)
  (v:Value) (n:Nat) (xs:List Value) (hs:a.eval s=v) (hvT:∀ k,v.ownBlock=some k → (k<w0.heap.size∧T k)∨(w0.heap.size≤k∧bs k)) (u:Value) (m:Nat) (news:List Value) (hu:a.eval x=u)
  (h1c:∀ u ∈ news,u.oneCell'=true) (h63:n+m≤maxLen) (hbytes:(n+m) * bytes≤140737488355328) (hbase:base≤w.heap.size)
  (H:∀ w1,Exc T w0 w1 → Below w.heap.size w w1 → w1.ownsRow base e size v n xs∧SrcAt w1 size u m news)
  (h:∀ K:(Nat → Prop) → Act → World → Prop,(∀ bs a w,WX P ops (Exc T w0) w0.heap.size Q l bs a w → K bs a w) → ∀ w1 w2 v',Exc T w0 w1 → Below w.heap.size w w1 →
   w2.ownsRow base e size v' (n+m) (xs ++ news) → w1.grownBy w2 v.ownBlock → Exc T w0 w2 → (v'.ownBlock=v.ownBlock∨v'.ownBlock=some w1.heap.size) → K (more bs w1 w2) (a.put o.dst v') w2) :
  WX P ops (Exc T w0) w0.heap.size Q (i :: l) bs a w:=by
 intro o' ho'
 rw [ho] at ho'
 obtain rfl:=Option.some.inj ho'
 unfold atX stepX
 rw [if_pos (by simp [Region.wanted,hg])]
 simp only [hk]
 intro w1 hw1
 have hC1:=hC.below hw1
 obtain ⟨ha,hb⟩:=H w1 hC1 hw1
 obtain ⟨v',w2,hrun,r1,r2,r4⟩:=run_append_src (P:=P) w1 base t o.type e inf z size bytes h1 h2 hz hsize hby hzs hsz v n xs ha u m news hb h1c h63 hbytes (Nat.le_trans hbase hw1.size)
 have hr:(execOp a.eval o).run P w1=.ok (.value v') w2:=by
  simp [execOp,hop,resolve,invoke,builtin,hs,hu,hrun,Result.andThen]
 unfold ActAt
 rw [hr]
 have hC2:Exc T w0 w2:=hC1.grown r2 (fun k hk=>(hvT k hk).elim (fun h=>.inr h.2) (fun h=>.inl h.1))
 exact ⟨hC2,r2.size,fun k hN hnb hlt=>r2.block k hlt (fun e=>by rcases hvT k e.symm with h|h;omega;exact hnb h.2),more bs w1 w2,fun _ h=>.inl h,fun _ h=>h,h _ (fun _ _ _ h=>h) w1 w2 v' hC1 hw1 r1 r2 hC2 r4⟩
end
theorem slat_src {α:Type} {f:α → List Value} {sz:Nat} (hsz:0<sz) (hf:∀ x,(f x).length=sz) {w:World} {v:Value} {xs:List α} {R:Nat → Nat → Nat → Prop} (h:SlAt sz v xs.length R)
  (hr:∀ i b o,(hi:i<xs.length) → R i b (o) → ∀ j,j<sz → w.cell? ⟨b,o+j,none⟩=(f xs[i])[j]?):SrcAt w sz v xs.length (xs.flatMap f):=by
 obtain ⟨a,cap,rfl,hc,hat⟩:=h
 refine ⟨flat_length hf xs,?_⟩
 cases a with
 | none =>
  by_cases h0:xs.length=0
  ·exact .inl ⟨h0,cap,by rw [h0]⟩
  ·obtain ⟨b,o,h1,_⟩:=hat 0 (by omega)
   cases h1
 | some ad =>
  refine .inr ⟨ad,cap,rfl,fun j u hj=>?_⟩
  have hlt:j<(xs.flatMap f).length:=by
   rcases Nat.lt_or_ge j (xs.flatMap f).length with h|h
   ·exact h
   ·rw [List.getElem?_eq_none h] at hj;cases hj
  rw [flat_length hf] at hlt
  have hd:j=(j / sz) * sz+j % sz:=by rw [Nat.mul_comm];exact (Nat.div_add_mod j sz).symm
  have hq:j / sz<xs.length:=Nat.div_lt_of_lt_mul (by rw [Nat.mul_comm];exact hlt)
  have hm:j % sz<sz:=Nat.mod_lt _ hsz
  obtain ⟨b,o,h1,h2⟩:=hat (j / sz) hq
  obtain rfl:=Option.some.inj h1
  have h3:=hr _ _ _ hq h2 (j % sz) hm
  rw [← flat_get hf xs (j / sz) (j % sz) hq hm,← hd,hj] at h3
  rw [← h3]
  have hadd:({ block:=b,off:=o }:Addr).add j=⟨b,o+j,none⟩:=by
   unfold Addr.add
   split
   ·rename_i h0;subst h0;rfl
   ·rfl
  rw [hadd,show o+j / sz * sz+j % sz=o+j by omega]
theorem nds_src {w:World} {v:Value} {ns:List Nd} (h:NdsAt w v ns):SrcAt w 3 v ns.length (ns.flatMap ndCells):=by
 refine slat_src (by omega) ndCells_len h ?_
 rintro i b o hi ⟨_,h0,h1,h2⟩ j hj
 match j,hj with
 | 0,_=>exact h0
 | 1,_=>exact h1
 | 2,_=>exact h2
def DfsVals (w:World) (v:Value) (xs:List (Df × Value)):Prop :=
 SlAt 4 v xs.length (fun i b o=>∃ h:i<xs.length,∀ j,j<4 → w.cell? ⟨b,o+j,none⟩=(dfCells xs[i])[j]?)∧∀ x ∈ xs,NdsAt w x.2 x.1.body
theorem DfsVals.at {w:World} {v:Value} {xs:List (Df × Value)} (h:DfsVals w v xs):DfsAt w v (xs.map Prod.fst):=by
 obtain ⟨⟨a,cap,rfl,hc,hat⟩,hb⟩:=h
 refine ⟨a,cap,by simp,by simpa using hc,fun i hi=>?_⟩
 have hi':i<xs.length:=by simpa using hi
 obtain ⟨b,o,h1,_,h2⟩:=hat i hi'
 refine ⟨b,o,h1,hi,?_⟩
 rw [List.getElem_map]
 exact ⟨h2 0 (by omega),h2 1 (by omega),h2 2 (by omega),xs[i].2,h2 3 (by omega),hb _ (List.getElem_mem _)⟩
theorem ndCells_one (ns:List Nd):∀ u ∈ ns.flatMap ndCells,u.oneCell'=true:=by
 intro u hu
 obtain ⟨d,_,hd⟩:=List.mem_flatMap.1 hu
 simp [ndCells] at hd
 rcases hd with rfl|rfl|rfl <;> rfl
end Go.Proofs.YtbljmfcifljkaaaGreatDoor
/-
  A drawn region in two stages: the operations of the second need all those of the first. Own work, over Acts.
-/
namespace Go.Proofs.YtbljmfcifljkaaaGreatDoor
open Go.RowKit
section
variable {P:Program} {ops:Array Oper} {C:World → Prop} {N:Nat} {Q:Exit → Act → World → Prop}
theorem WX_any2 {Q1:Exit → Act → World → Prop} (E:List Nat) (m:Nat) (hsel:NoSel ops) (hG:Grows C N) (f:Nat) (hrange:∀ (j:Nat) (oj:Oper),ops[j]?=some oj → ∀ e ∈ oj.after,Region.binds .any e=true → e.on<ops.size) (hself:∀ j,j<ops.size → Region.waitsFor .any ops j j=false) :
  ∀ (n:Nat) (l:List Nat) (listed:Array Bool) (bs:Nat → Prop) (a:Act) (w:World),l.length=n → (l.Pairwise fun i j=>pairB ops f i j=true) → (∀ i ∈ l,i<ops.size) → listed.size=ops.size →
   (∀ k,k<ops.size → (listed.getD k true=false ↔ (k ∈ l∨k ∈ E))) → (∀ e ∈ E,∀ i ∈ l,needsB ops f e i=true∧Region.waitsFor .any ops i e=false∧i ≠ e) → Closed ops listed → C w → (∀ k,bs k → k<w.heap.size) →
   (∀ (listed:Array Bool) (a:Act) (w:World),listed.size=ops.size → (∀ k,k<ops.size → (listed.getD k true=false ↔ k ∈ E)) → Closed ops listed → Q1 .normal a w → wpAny P .any ops Q m listed a w) →
   WX P ops C N Q1 l bs a w → wpAny P .any ops Q (n+m) listed a w:=by
 intro n
 induction n with
 | zero =>
  intro l listed bs a w hn _ _ hsz hun _ hcl _ _ hfin h
  have hl:l=[]:=List.eq_nil_of_length_eq_zero hn
  subst hl
  rw [Nat.zero_add]
  exact hfin listed a w hsz (fun k hk=>by rw [hun k hk];simp) hcl h
 | succ n ih =>
  intro l listed bs a w hn hp hin hsz hun hEn hcl hC hbs hfin h
  rw [Nat.add_right_comm]
  refine ⟨fun h0=>?_,fun j hj=>?_⟩
  ·-- the first operation of the walk is ready
   match l,hn with
   | i :: l,_ =>
    have hi:=hin i (List.mem_cons_self ..)
    have hi':ops[i]?=some ops[i]:=Array.getElem?_eq_getElem _
    have hr:i ∈ Region.ready .any ops listed:=by
     refine mem_ready.2 ⟨(hun i hi).2 (.inl (List.mem_cons_self ..)),_,hi',fun e he hb=>?_⟩
     have hes:=hrange i _ hi' e he hb
     have hw:Region.waitsFor .any ops i e.on=true:=by
      unfold Region.waitsFor;rw [hi']
      exact Array.any_eq_true'.2 ⟨e,he,by simp [hb]⟩
     have hnm:e.on ∉ i :: l:=by
      intro hm
      rcases List.mem_cons.1 hm with hm|hm
      ·rw [hm,hself i hi] at hw;cases hw
      ·have:=(List.pairwise_cons.1 hp).1 e.on hm
       simp [pairB,hw] at this
     have hes':e.on<listed.size:=by omega
     have hnE:e.on ∉ E:=fun hm=>by
      have:=(hEn e.on hm i (List.mem_cons_self ..)).2.1
      rw [hw] at this;cases this
     cases hg:listed.getD e.on false with
     | true=>rfl
     | false=>exact absurd ((hun e.on hes).1 (getD_in hes' hg)) (fun h=>h.elim hnm hnE)
    rw [h0] at hr
    cases hr
  ·obtain ⟨hjun,oj,hoj,hall⟩:=mem_ready.1 hj
   have hjs:j<ops.size:=(Array.getElem?_eq_some_iff.1 hoj).1
   have hjl:j ∈ l:=by
    rcases (hun j hjs).1 hjun with h1|h1
    ·exact h1
    ·match l,hn with
     | i :: l,_ =>
      have h2:=(hEn j h1 i (List.mem_cons_self ..)).1
      have h3:=needs_listed hcl f j i oj hoj hall h2
      have h4:=(hun i (hin i (List.mem_cons_self ..))).2 (.inl (List.mem_cons_self ..))
      rw [getD_both h4] at h3
      cases h3
   obtain ⟨s,t,rfl⟩:=List.append_of_mem hjl
   have hsl:s.length+t.length=n:=by simp at hn;omega
   have hpair:∀ i ∈ s,pairB ops f i j=true:=fun i hi=>(List.pairwise_append.1 hp).2.2 i hi j (List.mem_cons_self ..)
   have hins:∀ i ∈ s,i<ops.size:=fun i hi=>hin i (List.mem_append_left _ hi)
   have hno:∀ i ∈ s,needsB ops f j i=false:=fun i hi=>by
    cases hnb:needsB ops f j i with
    | false=>rfl
    | true =>
     have h1:=needs_listed hcl f j i oj hoj hall hnb
     have h2:=(hun i (hins i hi)).2 (.inl (List.mem_append_left _ hi))
     rw [getD_both h2] at h1
     cases h1
   have hsp:∀ i ∈ s,∀ oi,ops[i]?=some oi → oi.apart ops oj=true∧(opKind oj ≠ .act∨opKind oi=.still):=fun i hi oi hoi=>by
    have h1:=hpair i hi
    simp only [pairB,hno i hi,hoi,hoj,Bool.false_or,Bool.and_eq_true,Bool.or_eq_true,decide_eq_true_eq] at h1
    exact h1.2
   have hfr:∀ i ∈ s,Free ops i j:=fun i hi oi oj' hoi hoj'=>by
    obtain rfl:oj=oj':=Option.some.inj (hoj.symm.trans hoj')
    exact (hsp i hi oi hoi).1
   have hnd:j ∉ s ++ t:=by
    intro hm
    rcases List.mem_append.1 hm with hm|hm
    ·have:=hpair j hm;simp [pairB] at this
    ·have:=(List.pairwise_cons.1 (List.pairwise_append.1 hp).2.1).1 j hm;simp [pairB] at this
   have hjsz:j<listed.size:=by omega
   have next:∀ bs' a' w',C w' → (∀ k,bs' k → k<w'.heap.size) → WX P ops C N Q1 (s ++ t) bs' a' w' → wpAny P .any ops Q (n+m) (listed.setIfInBounds j true) a' w':=fun bs' a' w' hC' hb' h'=>by
    refine ih (s ++ t) _ bs' a' w' (by simp;omega) ?_ ?_ (by simpa using hsz) (fun k hk=>?_) (fun e he i hi=>hEn e he i (by rcases List.mem_append.1 hi with h|h;exact List.mem_append_left _ h;exact List.mem_append_right _ (List.mem_cons_of_mem _ h))) ?_ hC' hb' hfin h'
    ·refine List.Pairwise.sublist ?_ hp
     exact List.Sublist.append_left (List.sublist_cons_self j t) s
    ·intro i hi;exact hin i (by rcases List.mem_append.1 hi with h|h;exact List.mem_append_left _ h;exact List.mem_append_right _ (List.mem_cons_of_mem _ h))
    ·rw [getD_set_iff hjsz,hun k hk]
     constructor
     ·rintro ⟨h0,h2⟩
      rcases h0 with h1|h1
      ·rcases List.mem_append.1 h1 with h1|h1
       ·exact .inl (List.mem_append_left _ h1)
       ·rcases List.mem_cons.1 h1 with h1|h1
        ·exact absurd h1 h2
        ·exact .inl (List.mem_append_right _ h1)
      ·exact .inr h1
     ·rintro (h1|h1)
      ·refine ⟨.inl ?_,fun e=>hnd (e ▸ h1)⟩
       rcases List.mem_append.1 h1 with h1|h1
       ·exact List.mem_append_left _ h1
       ·exact List.mem_append_right _ (List.mem_cons_of_mem _ h1)
      ·exact ⟨.inr h1,fun e=>(hEn k h1 j hjl).2.2 e.symm⟩
    ·intro k ok hok hlk e he hb
     by_cases hkj:j=k
     ·subst hkj
      obtain rfl:ok=oj:=Option.some.inj (hok.symm.trans hoj)
      exact getD_set_true (hall e he hb)
     ·rw [getD_set_ne false hkj] at hlk
      exact getD_set_true (hcl k ok hok hlk e he hb)
   unfold wpOp
   simp only [hoj]
   by_cases hw:Region.wanted oj (yielded ops a.tmps)=true
   ·rw [if_pos hw]
    left
    cases hk:opKind oj with
    | still =>
     obtain ⟨a',bs',w',hC',e1,e2,h1⟩:=WX_reach hsel hG hoj t s bs a w hins hfr hC hbs h
     have h2:=h1 oj hoj
     unfold atX stepX at h2
     rw [if_pos (by rw [e2];exact hw)] at h2
     simp only [hk] at h2
     obtain ⟨v,h3,_⟩:=h2
     have hy:YieldsC P ops C oj v a:=.inl ⟨hw,fun w1 hw1=>by have:=h3 w1 hw1;unfold stillAt at this ⊢;rw [← e1];exact this⟩
     have h4:=WX_still hsel hG hoj t s bs a w hfr hC h (.inl hk) hy
     refine wp_of_gOp (C:=C) (K:=fun a' w'=>WX P ops C N Q1 (s ++ t) bs a' w'∧w'=w) hC (fun a' w' hC' h5=>next bs a' w' hC' (by rw [h5.2];exact hbs) h5.1) (.inl ⟨v,(hy.resolve_right fun hh=>by rw [hh.1] at hw;cases hw).2,h4,rfl⟩)
    | act =>
     have h1:=WX_act hsel hoj hk t s bs a w hins hfr (fun i hi oi hoi=>((hsp i hi oi hoi).2).resolve_left (by simp [hk])) hC h hw
     exact h1.wp fun v w2 ⟨c1,c2,bs',c5,c6⟩=>next bs' _ w2 c1 (fun k hk'=>by rcases c5 k hk' with h5|h5;(have:=hbs k h5;omega);exact h5.2) c6
    | make =>
     obtain ⟨a',bs',w',hC',e1,e2,h1⟩:=WX_reach hsel hG hoj t s bs a w hins hfr hC hbs h
     have h2:=h1 oj hoj
     unfold atX stepX at h2
     rw [if_pos (by rw [e2];exact hw)] at h2
     simp only [hk] at h2
     obtain ⟨mk,ob,h3,_⟩:=h2
     have h4:=h3 w hC
     rw [e1] at h4
     have hB:=hG.base w hC
     have h5:=WX_resolve hsel hoj hk hC rfl t s bs a w (w.alloc ob) hfr h hw h4 (alloc_below w ob) (heap_alloc_new w ob) hB (fun hh=>by have:=hbs _ hh;omega)
     unfold Oper.wp
     rw [h4,Oper.upon_value]
     exact next _ _ _ (hG.grow _ _ hC (alloc_below w ob)) (fun k hk'=>by rcases hk' with rfl|hk';simp;(have:=hbs k hk';simp;omega)) h5
   ·rw [if_neg hw]
    have hy:YieldsC P ops C oj undef a:=.inr ⟨by simpa using hw,rfl⟩
    exact next bs _ w hC hbs (WX_still hsel hG hoj t s bs a w hfr hC h (.inr (by simpa using hw)) hy)
def acts2B (ops:Array Oper) (f:Nat) (ord1 ord2:List Nat):Bool :=
 Region.noSelect ops && pairsB ops f ord1 && pairsB ops f ord2 && soundB ops (ord1 ++ ord2) && decide (ord1.length+ord2.length=ops.size) &&
  ord2.all (fun e=>ord1.all fun i=>needsB ops f e i && !Region.waitsFor .any ops i e && decide (i ≠ e))
def Stage (P:Program) (ops:Array Oper) (Q:Exit → Act → World → Prop) (ord:List Nat) (a:Act) (w:World):Prop :=
 ∃ (C:World → Prop) (N:Nat),Grows C N∧C w∧WX P ops C N Q ord (fun _=>False) a w
theorem region_acts2 {id:Nat} {a:Act} {w:World} {l:List Oper} (f:Nat) (ord1 ord2:List Nat) (hm:P.follows .mixedOrders=true) (hB:acts2B l.toArray f ord1 ord2=true)
  (hG:Grows C N) (hC:C w.drew) (h:WX P l.toArray C N (fun _ a' w'=>Stage P l.toArray Q ord2 a' w') ord1 (fun _=>False) a w.drew):(Code.region id l.toArray true).wp P Q a w:=by
 simp only [acts2B,Bool.and_eq_true,decide_eq_true_eq] at hB
 obtain ⟨⟨⟨⟨⟨hsel,hp1⟩,hp2⟩,hsound⟩,hlen⟩,hE⟩:=hB
 simp only [soundB,Bool.and_eq_true,List.all_eq_true,decide_eq_true_eq,Bool.not_eq_true',List.mem_range,List.contains_iff_mem] at hsound
 obtain ⟨⟨h1,h2⟩,h3⟩:=hsound
 simp only [List.all_eq_true,Bool.and_eq_true,decide_eq_true_eq,Bool.not_eq_true'] at hE
 have hrange:∀ (j:Nat) (oj:Oper),l.toArray[j]?=some oj → ∀ e ∈ oj.after,Region.binds .any e=true → e.on<l.toArray.size:=fun j oj hj e he hb=>by
  have h4:=Array.all_eq_true'.1 h3 oj (Array.mem_of_getElem? hj)
  have h5:=Array.all_eq_true'.1 h4 e he
  simpa [hb] using h5
 have hself:∀ j,j<l.toArray.size → Region.waitsFor .any l.toArray j j=false:=fun j hj=>(h1 j (h2 j hj)).2
 refine wp_region_any hm ?_
 rw [← hlen]
 refine WX_any2 ord2 ord2.length (Region.noSelect_spec hsel) hG f hrange hself ord1.length ord1 _ (fun _=>False) a _ rfl (pairsB_spec ord1 hp1) (fun i hi=>(h1 i (List.mem_append_left _ hi)).1) (by simpa using hlen) (fun k hk=>?_)
  (fun e he i hi=>⟨(hE e he i hi).1.1,(hE e he i hi).1.2,(hE e he i hi).2⟩) (fun j oj _ hl=>?_) hC (fun k hk=>hk.elim) ?_ h
 ·refine ⟨fun _=>by have:=h2 k hk;rcases List.mem_append.1 this with h|h;exact .inl h;exact .inr h,fun _=>by rw [getD_in (by simpa [hlen] using hk) (getD_replicate_false _ _)]⟩
 ·rw [getD_replicate_false] at hl;cases hl
 ·rintro listed a' w' hsz hun hcl ⟨C2,N2,hG2,hC2,hW2⟩
  exact WX_any (Region.noSelect_spec hsel) hG2 f hrange hself ord2.length ord2 listed (fun _=>False) a' w' rfl (pairsB_spec ord2 hp2) (fun i hi=>(h1 i (List.mem_append_right _ hi)).1) hsz hun hcl hC2 (fun k hk=>hk.elim) hW2
end
end Go.Proofs.YtbljmfcifljkaaaGreatDoor
/-
  Append inside a drawn region whose frame knows cells of the row that grows. Own work.
-/
namespace Go.Proofs.YtbljmfcifljkaaaGreatDoor
open Go.RowKit
theorem append_loc {P:Program} (w:World) (base:Nat) (t ty e:TypeId) (i:TypeInfo) (z:Value) (size bytes:Nat) (ht:P.underlying t=some (.slice e)) (hi:P.info? e=some i) (hz:i.zero=some z)
  (hsize:i.size=size) (hby:i.bytes=bytes) (hzs:z.cells.size=size) (hsz:0<size)
  (v:Value) (n:Nat) (xs:List Value) (hown:w.ownsRow base e size v n xs) (a:Addr) (m c:Nat) (news:List Value) (hl:news.length=m * size) (hnews:∀ j u,news[j]?=some u → w.cell? (a.add j)=some u) (h1:∀ u ∈ news,u.oneCell'=true)
  (h63:n+m≤maxLen) (hbytes:(n+m) * bytes≤140737488355328) (v':Value) (w':World) (hrun:(Builtin.append_ #[t,t] ty #[v,.slice (some a) m c]).run P w=.ok v' w') (hgr:w.grownBy w' v.ownBlock) (hloc:v'.ownBlock=v.ownBlock∨v'.ownBlock=some w.heap.size) :
  v'.ownBlock=v.ownBlock∨(v'.ownBlock=some w.heap.size∧w.grownBy w' none):=by
 subst hsize
 subst hby
 have hsmall:n+m≤9223372036854775807:=by simp only [maxLen] at h63;omega
 rcases hown.2 with ⟨rfl,rfl⟩|⟨g,cap,cur,rfl,hbg,hg,hnc,hcm,hcs,htake⟩
 ·rcases hloc with h|h
  ·exact .inl h
  ·exact .inr ⟨h,hgr⟩
 ·by_cases hroom:n+m≤cap
  ·have hfit:n * i.size+news.length≤cur.size:=by rw [hl,hcs,← Nat.add_mul];exact Nat.mul_le_mul_right _ hroom
   have hr:=run_append_room (P:=P) w t ty e i ht hi g n cap cur hg a m c news hl hnews h1 hroom hfit
   rw [hrun] at hr
   simp only [Result.ok.injEq] at hr
   exact .inl (by rw [hr.1];rfl)
  ·have holds:∀ j u,xs[j]?=some u → w.cell? ((⟨g,0,none⟩:Addr).add j)=some u:=hown.cells (g:=g) rfl
   have hr:=run_append_grow (P:=P) w t ty e i z ht hi hz ⟨g,0,none⟩ n cap xs hown.1 holds a m c news hl hnews (by omega) (by omega) (growslice_fits (by omega) hbytes)
   rw [hrun] at hr
   simp only [Result.ok.injEq] at hr
   refine .inr ⟨by rw [hr.1];rfl,?_⟩
   rw [hr.2]
   exact ⟨rfl,rfl,rfl,by simp,fun k hk _=>heap_alloc_old w.drew _ hk⟩
section
variable {P:Program} {ops:Array Oper} {Q:Exit → Act → World → Prop} {C:World → Prop} {N:Nat}
theorem x_srcC {i:Nat} {l:List Nat} {bs:Nat → Prop} {a:Act} {w:World} {o:Oper} (ho:ops[i]?=some o) (hk:opKind o=.act) (hg:o.guard=none) (hG:Grows C N) (hC:C w) (s x:Operand) (t:TypeId)
  (hop:o.op=Op.call { callee:=Callee.builtin Builtin.append,args:=#[s,x],argTypes:=#[t,t] })
  (base:Nat) (e:TypeId) (inf:TypeInfo) (z:Value) (size bytes:Nat) (h1:P.underlying t=some (.slice e)) (h2:P.info? e=some inf) (hz:inf.zero=some z)
  (hsize:inf.size=size) (hby:inf.bytes=bytes) (hzs:z.cells.size=size) (hsz:0<size)
  (v:Value) (n:Nat) (xs:List Value) (hs:a.eval s=v) (hvT:∀ k,v.ownBlock=some k → k<N∨bs k) (ad:Addr) (m c:Nat) (news:List Value) (hx:a.eval x=.slice (some ad) m c) (hn:news.length=m * size)
  (h1c:∀ u ∈ news,u.oneCell'=true) (h63:n+m≤maxLen) (hbytes:(n+m) * bytes≤140737488355328) (hbase:base≤w.heap.size)
  (H:∀ w1,C w1 → Below w.heap.size w w1 → w1.ownsRow base e size v n xs∧(∀ j u,news[j]?=some u → w1.cell? (ad.add j)=some u))
  (hpres:∀ w1 w2 v',C w1 → Below w.heap.size w w1 → w2.ownsRow base e size v' (n+m) (xs ++ news) → w1.grownBy w2 v.ownBlock → (v'.ownBlock=v.ownBlock∨(v'.ownBlock=some w1.heap.size∧w1.grownBy w2 none)) → C w2)
  (h:∀ K:(Nat → Prop) → Act → World → Prop,(∀ bs a w,WX P ops C N Q l bs a w → K bs a w) → ∀ w1 w2 v',C w1 → Below w.heap.size w w1 →
   w2.ownsRow base e size v' (n+m) (xs ++ news) → w1.grownBy w2 v.ownBlock → C w2 → (v'.ownBlock=v.ownBlock∨(v'.ownBlock=some w1.heap.size∧w1.grownBy w2 none)) → K (more bs w1 w2) (a.put o.dst v') w2) :
  WX P ops C N Q (i :: l) bs a w:=by
 intro o' ho'
 rw [ho] at ho'
 obtain rfl:=Option.some.inj ho'
 unfold atX stepX
 rw [if_pos (by simp [Region.wanted,hg])]
 simp only [hk]
 intro w1 hw1
 have hC1:=hG.grow _ _ hC hw1
 obtain ⟨ha,hb⟩:=H w1 hC1 hw1
 obtain ⟨v',w2,hrun,r1,r2,r3,r4⟩:=run_append_own_at (P:=P) w1 base t o.type e inf z size bytes h1 h2 hz hsize hby hzs hsz v n xs ha ad m c news hn hb h1c h63 hbytes (Nat.le_trans hbase hw1.size)
 have r5:=append_loc (P:=P) w1 base t o.type e inf z size bytes h1 h2 hz hsize hby hzs hsz v n xs ha ad m c news hn hb h1c h63 hbytes v' w2 hrun r2 r4
 have hr:(execOp a.eval o).run P w1=.ok (.value v') w2:=by
  simp [execOp,hop,resolve,invoke,builtin,hs,hx,hrun,Result.andThen]
 unfold ActAt
 rw [hr]
 have hC2:=hpres w1 w2 v' hC1 hw1 r1 r2 r5
 exact ⟨hC2,r2.size,fun k hN hnb hlt=>r2.block k hlt (fun e=>by rcases hvT k e.symm with h|h;omega;exact hnb h),more bs w1 w2,fun _ h=>.inl h,fun _ h=>h,h _ (fun _ _ _ h=>h) w1 w2 v' hC1 hw1 r1 r2 hC2 r5⟩
end
def KeepRow (w0:World) (g n:Nat) (w:World):Prop:=Exc (fun j=>j=g) w0 w∧(∀ j,j<n → w.cell? ⟨g,j,none⟩=w0.cell? ⟨g,j,none⟩)∧g<w0.heap.size
theorem KeepRow.refl (w0:World) (g n:Nat) (h:g<w0.heap.size):KeepRow w0 g n w0:=⟨Exc.refl _ _,fun _ _=>rfl,h⟩
theorem KeepRow.grows (w0:World) (g n:Nat):Grows (KeepRow w0 g n) w0.heap.size :=
 ⟨fun w w' h hb=>⟨h.1.below hb,fun j hj=>(hb.cell (p:=⟨g,j,none⟩) (Nat.lt_of_lt_of_le h.2.2 h.1.size)).trans (h.2.1 j hj),h.2.2⟩,fun w h=>h.1.size⟩
theorem KeepRow.append {w0 w1 w2:World} {g n base e size:Nat} {v v':Value} {k m:Nat} {xs news:List Value} (h:KeepRow w0 g n w1) (hv:v.ownBlock=some g) (ho1:w1.ownsRow base e size v k xs) (hn:n≤k * size)
  (ho:w2.ownsRow base e size v' m (xs ++ news)) (hm:k≤m) (hg:w1.grownBy w2 v.ownBlock) (hl:v'.ownBlock=v.ownBlock∨(v'.ownBlock=some w1.heap.size∧w1.grownBy w2 none)):KeepRow w0 g n w2:=by
 refine ⟨h.1.grown hg (fun j hj=>by rw [hv] at hj;cases hj;exact .inr rfl),fun j hj=>?_,h.2.2⟩
 rw [← h.2.1 j hj]
 rcases hl with hl|⟨_,hl⟩
 ·rw [hv] at hl
  have e1:∀ {w:World} {v:Value} {k:Nat} {xs:List Value},w.ownsRow base e size v k xs → v.ownBlock=some g → j<k * size → w.cell? ⟨g,j,none⟩=xs[j]?:=by
   intro w v k xs ho' hv hj
   rcases ho'.2 with ⟨rfl,_⟩|⟨g',cap,cur,rfl,_⟩
   ·simp [Value.ownBlock] at hv
   ·simp [Value.ownBlock] at hv
    subst hv
    exact World.ownsRow.cellAt ho' j hj
  have hkm:k * size≤m * size:=Nat.mul_le_mul_right _ hm
  rw [e1 ho hl (by omega),e1 ho1 hv (by omega),List.getElem?_append_left (by rw [ho1.1];omega)]
 ·exact World.cell?_of_block (w:=w1) (hl.block g (Nat.lt_of_lt_of_le h.2.2 h.1.size) (by simp))
end Go.Proofs.YtbljmfcifljkaaaGreatDoor
/-
  Plain functions: types of leaves and terms, names, libraries. No program in sight. Own work.
-/
namespace Go.Proofs.YtbljmfcifljkaaaGreatDoor
abbrev W2:=Int × Int
def kindW (k:Int):W2 :=
 if k=2 then (2,2) else if k=3∨k=11 then (1,2) else if k=4∨k=12 then (1,0) else if k=5∨k=9 then (2,1) else if k=6∨k=10 then (0,1) else (1,1)
def leafB (n:Nd):Bool :=
 decide (n.name=ByteArray.empty) && decide (1≤n.kind) && decide (n.kind≤14) &&
  (if n.kind=1 then decide (0≤n.value) && decide (n.value≤12) else if n.kind=7∨n.kind=13 then decide (0≤n.value) && decide (n.value≤96) else decide (n.value=0))
def arityW (n:Nd):W2:=if n.kind=1 then (n.value,n.value) else kindW n.kind
def findFrom (name:ByteArray):List Df → Nat → Int
 | [],_=>-1
 | d :: r,k=>if d.name=name then k else findFrom name r (k+1)
def findD (L:List Df) (name:ByteArray):Option Df:=L.find? fun d=>decide (d.name=name)
def leafIn (L:List Df) (n:Nd):Option W2 :=
 if n.kind=17 then (if n.value=0 then (findD L n.name).map fun d=>(d.inn,d.out) else none)
 else if leafB n then some (arityW n) else none
def joinW (k:Int) (a b:W2):Option W2 :=
 if k=15 then (if a.2=b.1 then some (a.1,b.2) else none)
 else if a.1+b.1≤12∧a.2+b.2≤12 then some (a.1+b.1,a.2+b.2) else none
def typedGo (leaf:Nd → Option W2):List Nd → List W2 → Option (List W2)
 | [],st=>some st
 | n :: r,st =>
  if n.kind=15∨n.kind=16 then
   (if n.value=0∧n.name=ByteArray.empty then
    (match st with
    | b :: a :: st'=>(match joinW n.kind a b with
     | some w=>typedGo leaf r (w :: st')
     | none=>none)
    | _=>none)
   else none)
  else (match leaf n with
   | some w=>typedGo leaf r (w :: st)
   | none=>none)
def typedL (leaf:Nd → Option W2) (ns:List Nd):Option W2 :=
 if 1≤ns.length∧ns.length≤400 then
  (match typedGo leaf ns [] with
  | some [w]=>some w
  | _=>none)
 else none
section
variable {leaf:Nd → Option W2} {n:Nd} {r:List Nd} {st:List W2}
theorem typedGo_no (hk:¬ (n.kind=15∨n.kind=16)) (h:leaf n=none):typedGo leaf (n :: r) st=none:=by
 unfold typedGo;rw [if_neg hk,h]
theorem typedGo_push {x:W2} (hk:¬ (n.kind=15∨n.kind=16)) (h:leaf n=some x):typedGo leaf (n :: r) st=typedGo leaf r (x :: st):=by
 conv=>lhs;unfold typedGo
 rw [if_neg hk,h]
theorem typedGo_bad (hk:n.kind=15∨n.kind=16) (h:¬ (n.value=0∧n.name=ByteArray.empty)):typedGo leaf (n :: r) st=none:=by
 unfold typedGo;rw [if_pos hk,if_neg h]
theorem typedGo_short (hk:n.kind=15∨n.kind=16) (h:st.length<2):typedGo leaf (n :: r) st=none:=by
 unfold typedGo
 rw [if_pos hk]
 match st,h with
 | [],_=>split <;> rfl
 | [a],_=>split <;> rfl
theorem typedGo_clash {a b:W2} (hk:n.kind=15∨n.kind=16) (h:joinW n.kind a b=none):typedGo leaf (n :: r) (b :: a :: st)=none:=by
 unfold typedGo
 rw [if_pos hk]
 simp only [h]
 split <;> rfl
theorem typedGo_join {a b x:W2} (hk:n.kind=15∨n.kind=16) (hv:n.value=0) (hm:n.name=ByteArray.empty) (h:joinW n.kind a b=some x):typedGo leaf (n :: r) (b :: a :: st)=typedGo leaf r (x :: st):=by
 conv=>lhs;unfold typedGo
 rw [if_pos hk,if_pos ⟨hv,hm⟩]
 simp only [h]
end
end Go.Proofs.YtbljmfcifljkaaaGreatDoor
/-
  Small tools for regions that draw their order. Own work.
-/
namespace Go.Proofs.YtbljmfcifljkaaaGreatDoor
end Go.Proofs.YtbljmfcifljkaaaGreatDoor
