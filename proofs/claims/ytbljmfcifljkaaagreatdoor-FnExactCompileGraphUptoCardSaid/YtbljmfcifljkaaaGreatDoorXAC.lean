/-
  Regions that draw their order, with calls that make memory: the reads hold in every world that has only grown, the calls come in the order of the text.
  One walk in the order of the text serves every order. Own work, over the library's laws on orders.
-/
import Derived.StillTailTactics
import Derived.WalkKit
import Derived.Test.YtbljmfcifljkaaaGreatDoorXAA
import Derived.Maps.AppendAt
import Derived.Test.YtbljmfcifljkaaaGreatDoorXAB
import Derived.Test.YtbljmfcifljkaaaGreatDoorProg
import Derived.WalkLawsBesides
import Derived.WalkSpells
import Derived.Deep.QuietTactic
import Derived.BigQuiet
import Derived.Deep.RegionWith
set_option linter.all false
set_option maxRecDepth 100000
set_option maxHeartbeats 8000000
namespace Go.Proofs.YtbljmfcifljkaaaGreatDoor
open Go.RowKit
section
variable {P:Program} {ops:Array Oper} {md:Region.Mode} {C:World → Prop}
def stillAt (P:Program) (o:Oper) (a:Act) (v:Value) (w:World):Prop :=
 (execOp a.eval o).run P w=.ok (.value v) w∨((execOp a.eval o).run P w=.ok .skip w∧v=undef)
def isCall (o:Oper):Bool :=
 match o.op with
 | .call c=>(match c.callee with
  | .builtin _=>false
  | _=>true)
 | _=>false
def gOp (P:Program) (C:World → Prop) (o:Oper) (a:Act) (w:World) (K:Act → World → Prop):Prop :=
 (∃ v,(∀ w',C w' → stillAt P o a v w')∧K (a.put o.dst v) w) ∨
 (isCall o=true∧∃ f args,(∀ w',C w' → (execOp a.eval o).run P w'=.ok (.enter f args) w')∧Calls P f args w fun e w''=>∃ v,e=.returned v∧C w''∧K (a.put o.dst v) w'')
theorem wp_of_gOp {o:Oper} {a:Act} {w:World} {K K':Act → World → Prop} {Q':Exit → Act → World → Prop} (hC:C w) (h:∀ a w',C w' → K a w' → K' a w') (hh:gOp P C o a w K):o.wp P a w K' Q':=by
 unfold Oper.wp
 rcases hh with ⟨v,h1,h2⟩|⟨hi,f,args,h1,h2⟩
 ·rcases h1 w hC with h3|⟨h3,h4⟩
  ·rw [h3,Oper.upon_value];exact h _ _ hC h2
  ·rw [h3,Oper.upon_skip];subst h4;exact h _ _ hC h2
 ·rw [h1 w hC,Oper.upon_enter]
  exact h2.mono fun e w'' ⟨v,e1,e2,e3⟩=>by subst e1;exact h _ _ e2 e3
theorem calls_some {f:FuncId} {args:Array Value} {w:World} {R:Ending → World → Prop} (h:Calls P f args w R):∃ e w',R e w':=by
 obtain ⟨e,w',_,hR,_⟩:=h []
 exact ⟨e,w',hR⟩
def YieldsC (P:Program) (ops:Array Oper) (C:World → Prop) (o:Oper) (v:Value) (a:Act):Prop :=
 (Region.wanted o (yielded ops a.tmps)=true∧∀ w,C w → stillAt P o a v w)∨(Region.wanted o (yielded ops a.tmps)=false∧v=undef)
def EntersC (P:Program) (ops:Array Oper) (C:World → Prop) (o:Oper) (f:FuncId) (args:Array Value) (a:Act):Prop :=
 isCall o=true∧Region.wanted o (yielded ops a.tmps)=true∧∀ w,C w → (execOp a.eval o).run P w=.ok (.enter f args) w
theorem YieldsC.of_same {o:Oper} {v:Value} {a a':Act} (hy:YieldsC P ops C o v a) (he:execOp a'.eval o=execOp a.eval o)
  (hw:Region.wanted o (yielded ops a'.tmps)=Region.wanted o (yielded ops a.tmps)):YieldsC P ops C o v a':=by
 unfold YieldsC stillAt at *
 rw [he,hw]
 exact hy
theorem EntersC.of_same {o:Oper} {f:FuncId} {args:Array Value} {a a':Act} (hy:EntersC P ops C o f args a) (he:execOp a'.eval o=execOp a.eval o)
  (hw:Region.wanted o (yielded ops a'.tmps)=Region.wanted o (yielded ops a.tmps)):EntersC P ops C o f args a':=by
 unfold EntersC at *
 rw [he,hw]
 exact hy
theorem YieldsC.unique {o:Oper} {v v':Value} {a:Act} {w:World} (hC:C w) (h:YieldsC P ops C o v a) (h':YieldsC P ops C o v' a):v=v':=by
 rcases h with ⟨h1,h2⟩|⟨h1,h2⟩ <;> rcases h' with ⟨h3,h4⟩|⟨h3,h4⟩
 ·rcases h2 w hC with h5|⟨h5,h6⟩ <;> rcases h4 w hC with h7|⟨h7,h8⟩
  ·rw [h5] at h7;simp at h7;exact h7
  ·rw [h5] at h7;simp at h7
  ·rw [h5] at h7;simp at h7
  ·rw [h6,h8]
 ·rw [h1] at h3;cases h3
 ·rw [h1] at h3;cases h3
 ·rw [h2,h4]
theorem YieldsC.back {oi oj:Oper} {v u:Value} {a:Act} (hap:oi.apart ops oj=true) (hsj:∀ cs b,oj.op ≠ .select cs b) (h:YieldsC P ops C oj u (a.put oi.dst v)):YieldsC P ops C oj u a:=by
 obtain ⟨h1,h2,h3⟩:=Oper.apart_spec hap
 exact h.of_same (execOp_put oj hsj a oi.dst v h1).symm (wanted_put oj a oi.dst v h1).symm
theorem EntersC.back {oi oj:Oper} {v:Value} {f:FuncId} {args:Array Value} {a:Act} (hap:oi.apart ops oj=true) (hsj:∀ cs b,oj.op ≠ .select cs b) (h:EntersC P ops C oj f args (a.put oi.dst v)):EntersC P ops C oj f args a:=by
 obtain ⟨h1,h2,h3⟩:=Oper.apart_spec hap
 exact h.of_same (execOp_put oj hsj a oi.dst v h1).symm (wanted_put oj a oi.dst v h1).symm
theorem YieldsC.fwd {oi oj:Oper} {v u:Value} {a:Act} (hap:oi.apart ops oj=true) (hsi:∀ cs b,oi.op ≠ .select cs b) (h:YieldsC P ops C oi v a):YieldsC P ops C oi v (a.put oj.dst u):=by
 obtain ⟨h1,h2,h3⟩:=Oper.apart_spec hap
 exact h.of_same (execOp_put oi hsi a oj.dst u h3) (wanted_put oi a oj.dst u h3)
theorem EntersC.fwd {oi oj:Oper} {u:Value} {f:FuncId} {args:Array Value} {a:Act} (hap:oi.apart ops oj=true) (hsi:∀ cs b,oi.op ≠ .select cs b) (h:EntersC P ops C oi f args a):EntersC P ops C oi f args (a.put oj.dst u):=by
 obtain ⟨h1,h2,h3⟩:=Oper.apart_spec hap
 exact h.of_same (execOp_put oi hsi a oj.dst u h3) (wanted_put oi a oj.dst u h3)
theorem put_swap {oi oj:Oper} {v u:Value} {a:Act} (hap:oi.apart ops oj=true):(a.put oi.dst v).put oj.dst u=(a.put oj.dst u).put oi.dst v :=
 Act.put_comm a v u (Oper.apart_spec hap).2.1
def Grew (w:World):World → Prop:=fun w'=>Below w.heap.size w w'
theorem Grew.refl (w:World):Grew w w:=Below.refl _ _
end
end Go.Proofs.YtbljmfcifljkaaaGreatDoor
/-
  Regions that draw their order, in general: reads, blocks that are made, and operations that act on memory one behind the other.
  One walk, in an order of one's own choice, serves every order. Own work, over the library's laws on orders.
-/
namespace Go.Proofs.YtbljmfcifljkaaaGreatDoor
open Go.RowKit
section
variable {P:Program} {ops:Array Oper} {C:World → Prop} {N:Nat} {Q:Exit → Act → World → Prop}
inductive OpKind where
 | still|act|make
 deriving DecidableEq
def opKind (o:Oper):OpKind :=
 match o.op with
 | .call c=>(match c.callee with
  | .builtin .len=>.still
  | .builtin .cap=>.still
  | .builtin .min=>.still
  | .builtin .max=>.still
  | _=>.act)
 | .store ..=>.act
 | .mapUpdate ..=>.act
 | .alloc ..=>.make
 | .buildSlice ..=>.make
 | .makeSlice ..=>.make
 | .makeMap ..=>.make
 | _=>.still
def ActAt (P:Program) (o:Oper) (a:Act) (w1:World) (R:Value → World → Prop):Prop :=
 match (execOp a.eval o).run P w1 with
 | .ok (.value v) w2=>R v w2
 | .ok .skip w2=>R undef w2
 | .ok (.enter f args) w2=>Calls P f args w2 fun e w3=>∃ v,e=.returned v∧R v w3
 | _=>False
theorem ActAt.mono {o:Oper} {a:Act} {w:World} {R R':Value → World → Prop} (h:ActAt P o a w R) (hr:∀ v w2,R v w2 → R' v w2):ActAt P o a w R':=by
 unfold ActAt at *
 generalize (execOp a.eval o).run P w=r at *
 cases r with
 | ok n w' =>
  cases n <;> simp only at h ⊢
  case value v=>exact hr _ _ h
  case skip=>exact hr _ _ h
  case enter f args=>exact Calls.mono h fun e w3 ⟨v,e1,e2⟩=>⟨v,e1,hr _ _ e2⟩
 | halt x w'=>simp only at h
theorem ActAt.some {o:Oper} {a:Act} {w:World} {R:Value → World → Prop} (h:ActAt P o a w R):∃ v w2,R v w2:=by
 unfold ActAt at *
 generalize (execOp a.eval o).run P w=r at *
 cases r with
 | ok n w' =>
  cases n <;> simp only at h
  case value v=>exact ⟨_,_,h⟩
  case skip=>exact ⟨_,_,h⟩
  case enter f args=>obtain ⟨_,w3,v,_,e2⟩:=calls_some h;exact ⟨_,_,e2⟩
 | halt x w'=>simp only at h
theorem ActAt.congr {o:Oper} {a a':Act} {w:World} {R:Value → World → Prop} (h:ActAt P o a w R) (he:execOp a'.eval o=execOp a.eval o):ActAt P o a' w R:=by
 unfold ActAt at *
 rw [he]
 exact h
theorem ActAt.wp {o:Oper} {a:Act} {w:World} {R:Value → World → Prop} {K:Act → World → Prop} {Q':Exit → Act → World → Prop} (h:ActAt P o a w R) (hr:∀ v w2,R v w2 → K (a.put o.dst v) w2):o.wp P a w K Q':=by
 unfold ActAt at h
 unfold Oper.wp
 generalize (execOp a.eval o).run P w=r at *
 cases r with
 | ok n w' =>
  cases n <;> simp only at h <;> simp only [Oper.upon]
  case value v=>exact hr _ _ h
  case skip=>exact hr _ _ h
  case enter f args=>exact Calls.mono h fun e w3 ⟨v,e1,e2⟩=>by subst e1;exact hr _ _ e2
 | halt x w'=>simp only at h
def stepX (P:Program) (C:World → Prop) (N:Nat) (o:Oper) (bs:Nat → Prop) (a:Act) (w:World) (K:(Nat → Prop) → Act → World → Prop):Prop :=
 match opKind o with
 | .still=>∃ v,(∀ w',C w' → stillAt P o a v w')∧K bs (a.put o.dst v) w
 | .act=>∀ w1,Below w.heap.size w w1 → ActAt P o a w1 fun v w2=>C w2∧w1.heap.size≤w2.heap.size∧(∀ k,N≤k → ¬ bs k → k<w1.heap.size → w2.heap[k]?=w1.heap[k]?) ∧
   ∃ bs':Nat → Prop,(∀ k,bs k → bs' k)∧(∀ k,bs' k → bs k∨(w1.heap.size≤k∧k<w2.heap.size))∧K bs' (a.put o.dst v) w2
 | .make=>∃ (mk:Nat → Value) (ob:Obj),(∀ w',C w' → (execOp a.eval o).run P w'=.ok (.value (mk w'.heap.size)) (w'.alloc ob)) ∧
   ∀ b w',Below w.heap.size w w' → w'.heap[b]?=some ob → N≤b → ¬ bs b → K (fun k=>k=b∨bs k) (a.put o.dst (mk b)) w'
def atX (P:Program) (ops:Array Oper) (C:World → Prop) (N:Nat) (o:Oper) (bs:Nat → Prop) (a:Act) (w:World) (K:(Nat → Prop) → Act → World → Prop):Prop :=
 if Region.wanted o (yielded ops a.tmps) then stepX P C N o bs a w K else K bs (a.put o.dst undef) w
def WX (P:Program) (ops:Array Oper) (C:World → Prop) (N:Nat) (Q:Exit → Act → World → Prop):List Nat → (Nat → Prop) → Act → World → Prop
 | [],_,a,w=>Q .normal a w
 | i :: l,bs,a,w=>∀ o,ops[i]?=some o → atX P ops C N o bs a w (WX P ops C N Q l)
structure Grows (C:World → Prop) (N:Nat):Prop where
 grow:∀ w w',C w → Below w.heap.size w w' → C w'
 base:∀ w,C w → N≤w.heap.size
def MakesC (P:Program) (ops:Array Oper) (C:World → Prop) (o:Oper) (mk:Nat → Value) (ob:Obj) (a:Act):Prop :=
 Region.wanted o (yielded ops a.tmps)=true∧∀ w',C w' → (execOp a.eval o).run P w'=.ok (.value (mk w'.heap.size)) (w'.alloc ob)
theorem MakesC.of_same {o:Oper} {mk:Nat → Value} {ob:Obj} {a a':Act} (hy:MakesC P ops C o mk ob a) (he:execOp a'.eval o=execOp a.eval o)
  (hw:Region.wanted o (yielded ops a'.tmps)=Region.wanted o (yielded ops a.tmps)):MakesC P ops C o mk ob a':=by
 unfold MakesC at *
 rw [he,hw]
 exact hy
theorem alloc_inj {w:World} {o o':Obj} (h:w.alloc o=w.alloc o'):o=o':=by
 have h1:=congrArg (fun x:World=>x.heap[w.heap.size]?) h
 simp only [heap_alloc_new] at h1
 exact Option.some.inj h1
theorem alloc_below (w:World) (o:Obj):Below w.heap.size w (w.alloc o):=(Below.refl _ _).alloc (Nat.le_refl _) _
theorem swapB (b c:Nat) (bs:Nat → Prop):(fun k=>k=b∨(k=c∨bs k))=fun k=>k=c∨(k=b∨bs k):=by
 funext k;exact propext ⟨fun h=>by rcases h with h|h|h <;> simp [h],fun h=>by rcases h with h|h|h <;> simp [h]⟩
def Free (ops:Array Oper) (i j:Nat):Prop:=∀ oi oj,ops[i]?=some oi → ops[j]?=some oj → oi.apart ops oj=true
def NoSel (ops:Array Oper):Prop:=∀ (j:Nat) (o:Oper) cs b,ops[j]?=some o → o.op ≠ .select cs b
theorem same_of_put {oi oj:Oper} {u:Value} {a:Act} (hap:oi.apart ops oj=true) (hsi:∀ cs b,oi.op ≠ .select cs b) :
  execOp (a.put oj.dst u).eval oi=execOp a.eval oi∧Region.wanted oi (yielded ops (a.put oj.dst u).tmps)=Region.wanted oi (yielded ops a.tmps):=by
 obtain ⟨h1,h2,h3⟩:=Oper.apart_spec hap
 exact ⟨execOp_put oi hsi a oj.dst u h3,wanted_put oi a oj.dst u h3⟩
theorem same_of_put' {oi oj:Oper} {v:Value} {a:Act} (hap:oi.apart ops oj=true) (hsj:∀ cs b,oj.op ≠ .select cs b) :
  execOp (a.put oi.dst v).eval oj=execOp a.eval oj∧Region.wanted oj (yielded ops (a.put oi.dst v).tmps)=Region.wanted oj (yielded ops a.tmps):=by
 obtain ⟨h1,h2,h3⟩:=Oper.apart_spec hap
 exact ⟨execOp_put oj hsj a oi.dst v h1,wanted_put oj a oi.dst v h1⟩
theorem WX_resolve (hsel:NoSel ops) {j b:Nat} {oj:Oper} {V:Value} {ob:Obj} {wj:World} (hj:ops[j]?=some oj) (hkj:opKind oj=.make) (hCj:C wj) (hbj:wj.heap.size=b) (l2:List Nat) :
  ∀ (l1:List Nat) (bs:Nat → Prop) (a:Act) (w w':World),(∀ i ∈ l1,Free ops i j) → WX P ops C N Q (l1 ++ j :: l2) bs a w → Region.wanted oj (yielded ops a.tmps)=true →
   (execOp a.eval oj).run P wj=.ok (.value V) (wj.alloc ob) → Below w.heap.size w w' → w'.heap[b]?=some ob → N≤b → ¬ bs b →
   WX P ops C N Q (l1 ++ l2) (fun k=>k=b∨bs k) (a.put oj.dst V) w':=by
 intro l1
 induction l1 with
 | nil =>
  intro bs a w w' _ h hw hrun hgr hb hN hbs
  have h1:=h oj hj
  unfold atX at h1
  rw [if_pos hw] at h1
  unfold stepX at h1
  rw [hkj] at h1
  obtain ⟨mk,ob',e1,e2⟩:=h1
  have e3:=e1 wj hCj
  rw [hrun] at e3
  simp only [Result.ok.injEq,Next.value.injEq] at e3
  obtain ⟨e4,e5⟩:=e3
  have e6:=alloc_inj e5
  subst e6
  rw [hbj] at e4
  rw [e4]
  exact e2 b w' hgr hb hN hbs
 | cons i l1 ih =>
  intro bs a w w' hfr h hw hrun hgr hb hN hbs oi hi
  have hap:=hfr i (List.mem_cons_self ..) oi oj hi hj
  have hsi:=fun cs b=>hsel i oi cs b hi
  have hsj:=fun cs b=>hsel j oj cs b hj
  have hfr':∀ i ∈ l1,Free ops i j:=fun x hx=>hfr x (List.mem_cons_of_mem _ hx)
  have h1:=h oi hi
  have sw:∀ v,(a.put oi.dst v).put oj.dst V=(a.put oj.dst V).put oi.dst v:=fun v=>put_swap hap
  have run':∀ v,(execOp (a.put oi.dst v).eval oj).run P wj=.ok (.value V) (wj.alloc ob):=fun v=>by rw [(same_of_put' hap hsj).1];exact hrun
  have wan':∀ v,Region.wanted oj (yielded ops (a.put oi.dst v).tmps)=true:=fun v=>by rw [(same_of_put' hap hsj).2];exact hw
  unfold atX at h1 ⊢
  rw [(same_of_put (u:=V) hap hsi).2]
  by_cases hwi:Region.wanted oi (yielded ops a.tmps)=true
  ·rw [if_pos hwi] at h1 ⊢
   unfold stepX at h1 ⊢
   cases hk:opKind oi with
   | still =>
    simp only [hk] at h1 ⊢
    obtain ⟨v,e1,e2⟩:=h1
    refine ⟨v,fun w1 hw1=>?_,?_⟩
    ·have:=e1 w1 hw1
     unfold stillAt at this ⊢
     rw [(same_of_put (u:=V) hap hsi).1]
     exact this
    ·rw [← sw]
     exact ih _ _ _ _ hfr' e2 (wan' v) (run' v) hgr hb hN hbs
   | act =>
    simp only [hk] at h1 ⊢
    intro w1 hw1
    have hb1:w1.heap[b]?=some ob:=by
     have hlt:b<w'.heap.size:=(Array.getElem?_eq_some_iff.1 hb).1
     rw [hw1.block b hlt];exact hb
    have hlt1:b<w1.heap.size:=(Array.getElem?_eq_some_iff.1 hb1).1
    refine ((h1 w1 (hgr.trans (hw1.mono hgr.size))).congr (same_of_put (u:=V) hap hsi).1).mono ?_
    rintro v w2 ⟨c1,c2,c3,bs',c4,c5,c6⟩
    refine ⟨c1,c2,fun k h2 h3 h4=>c3 k h2 (fun h=>h3 (.inr h)) h4,fun k=>k=b∨bs' k,fun k hk'=>hk'.imp id (c4 k),fun k hk'=>?_,?_⟩
    ·rcases hk' with hk'|hk'
     ·exact .inl (.inl hk')
     ·exact (c5 k hk').imp .inr id
    ·rw [← sw]
     refine ih _ _ _ _ hfr' c6 (wan' v) (run' v) (Below.refl _ _) ?_ hN ?_
     ·rw [c3 b hN hbs hlt1];exact hb1
     ·intro hbb
      rcases c5 b hbb with h5|h5
      ·exact hbs h5
      ·omega
   | make =>
    simp only [hk] at h1 ⊢
    obtain ⟨mk,obi,e1,e2⟩:=h1
    refine ⟨mk,obi,fun w1 hw1=>?_,fun b' w1 hw1 hb' hN' hbs'=>?_⟩
    ·rw [(same_of_put (u:=V) hap hsi).1];exact e1 w1 hw1
    ·have hlt:b<w'.heap.size:=(Array.getElem?_eq_some_iff.1 hb).1
     have e3:=e2 b' w1 (hgr.trans (hw1.mono hgr.size)) hb' hN' (fun h=>hbs' (.inr h))
     rw [← sw,swapB]
     refine ih _ _ _ _ hfr' e3 (wan' _) (run' _) (Below.refl _ _) ?_ hN ?_
     ·rw [hw1.block b hlt];exact hb
     ·rintro (h|h)
      ·exact hbs' (.inl h.symm)
      ·exact hbs h
  ·rw [if_neg hwi] at h1 ⊢
   rw [← sw]
   exact ih _ _ _ _ hfr' h1 (wan' _) (run' _) hgr hb hN hbs
theorem WX_reach (hsel:NoSel ops) (hG:Grows C N) {j:Nat} {oj:Oper} (hj:ops[j]?=some oj) (l2:List Nat) :
  ∀ (l1:List Nat) (bs:Nat → Prop) (a:Act) (w:World),(∀ i ∈ l1,i<ops.size) → (∀ i ∈ l1,Free ops i j) → C w → (∀ k,bs k → k<w.heap.size) → WX P ops C N Q (l1 ++ j :: l2) bs a w →
   ∃ a' bs' w',C w'∧execOp a'.eval oj=execOp a.eval oj∧Region.wanted oj (yielded ops a'.tmps)=Region.wanted oj (yielded ops a.tmps)∧WX P ops C N Q (j :: l2) bs' a' w':=by
 intro l1
 induction l1 with
 | nil=>exact fun bs a w _ _ hC _ h=>⟨a,bs,w,hC,rfl,rfl,h⟩
 | cons i l1 ih =>
  intro bs a w hin hfr hC hbs h
  have hin':∀ i ∈ l1,i<ops.size:=fun x hx=>hin x (List.mem_cons_of_mem _ hx)
  have hfr':∀ i ∈ l1,Free ops i j:=fun x hx=>hfr x (List.mem_cons_of_mem _ hx)
  have hsj:=fun cs b=>hsel j oj cs b hj
  cases hi:ops[i]? with
  | none =>
   have:=hin i (List.mem_cons_self ..)
   rw [Array.getElem?_eq_getElem this] at hi
   cases hi
  | some oi =>
   have hap:=hfr i (List.mem_cons_self ..) oi oj hi hj
   have h1:=h oi hi
   have back:∀ v bs' w',C w' → (∀ k,bs' k → k<w'.heap.size) → WX P ops C N Q (l1 ++ j :: l2) bs' (a.put oi.dst v) w' →
     ∃ a' bs' w',C w'∧execOp a'.eval oj=execOp a.eval oj∧Region.wanted oj (yielded ops a'.tmps)=Region.wanted oj (yielded ops a.tmps)∧WX P ops C N Q (j :: l2) bs' a' w':=fun v bs' w' hC' hb' h'=>by
    obtain ⟨a',b',w'',e1,e2,e3,e4⟩:=ih bs' (a.put oi.dst v) w' hin' hfr' hC' hb' h'
    exact ⟨a',b',w'',e1,e2.trans (same_of_put' hap hsj).1,e3.trans (same_of_put' hap hsj).2,e4⟩
   unfold atX at h1
   by_cases hwi:Region.wanted oi (yielded ops a.tmps)=true
   ·rw [if_pos hwi] at h1
    unfold stepX at h1
    cases hk:opKind oi with
    | still=>simp only [hk] at h1;obtain ⟨v,e1,e2⟩:=h1;exact back v bs w hC hbs e2
    | act =>
     simp only [hk] at h1
     obtain ⟨v,w2,c1,c2,c3,bs',c4,c5,c6⟩:=(h1 w (Below.refl _ _)).some
     exact back v bs' w2 c1 (fun k hk'=>by rcases c5 k hk' with h5|h5;(have:=hbs k h5;omega);exact h5.2) c6
    | make =>
     simp only [hk] at h1
     obtain ⟨mk,ob,e1,e2⟩:=h1
     have hB:=hG.base w hC
     exact back _ _ (w.alloc ob) (hG.grow _ _ hC (alloc_below w ob)) (fun k hk'=>by rcases hk' with rfl|hk';simp;(have:=hbs k hk';simp;omega))
      (e2 w.heap.size (w.alloc ob) (alloc_below w ob) (heap_alloc_new w ob) hB (fun h=>by have:=hbs _ h;omega))
   ·rw [if_neg hwi] at h1
    exact back undef bs w hC hbs h1
theorem WX_still (hsel:NoSel ops) (hG:Grows C N) {j:Nat} {oj:Oper} {u:Value} (hj:ops[j]?=some oj) (l2:List Nat) :
  ∀ (l1:List Nat) (bs:Nat → Prop) (a:Act) (w:World),(∀ i ∈ l1,Free ops i j) → C w → WX P ops C N Q (l1 ++ j :: l2) bs a w →
   (opKind oj=.still∨Region.wanted oj (yielded ops a.tmps)=false) → YieldsC P ops C oj u a → WX P ops C N Q (l1 ++ l2) bs (a.put oj.dst u) w:=by
 intro l1
 induction l1 with
 | nil =>
  intro bs a w _ hC h hk hy
  have h1:=h oj hj
  unfold atX at h1
  by_cases hw:Region.wanted oj (yielded ops a.tmps)=true
  ·rw [if_pos hw] at h1
   have hk':opKind oj=.still:=hk.resolve_right (by rw [hw];simp)
   unfold stepX at h1
   simp only [hk'] at h1
   obtain ⟨v,e1,e2⟩:=h1
   have:YieldsC P ops C oj v a:=.inl ⟨hw,e1⟩
   rw [hy.unique hC this]
   exact e2
  ·rw [if_neg hw] at h1
   have:YieldsC P ops C oj undef a:=.inr ⟨by simpa using hw,rfl⟩
   rw [hy.unique hC this]
   exact h1
 | cons i l1 ih =>
  intro bs a w hfr hC h hk hy oi hi
  have hap:=hfr i (List.mem_cons_self ..) oi oj hi hj
  have hsi:=fun cs b=>hsel i oi cs b hi
  have hsj:=fun cs b=>hsel j oj cs b hj
  have hfr':∀ i ∈ l1,Free ops i j:=fun x hx=>hfr x (List.mem_cons_of_mem _ hx)
  have h1:=h oi hi
  have sw:∀ v,(a.put oi.dst v).put oj.dst u=(a.put oj.dst u).put oi.dst v:=fun v=>put_swap hap
  have go:∀ v bs' w',C w' → WX P ops C N Q (l1 ++ j :: l2) bs' (a.put oi.dst v) w' → WX P ops C N Q (l1 ++ l2) bs' ((a.put oj.dst u).put oi.dst v) w':=fun v bs' w' hC' h'=>by
   rw [← sw]
   exact ih bs' _ w' hfr' hC' h' (hk.imp id fun h=>by rw [(same_of_put' hap hsj).2];exact h) (hy.of_same (same_of_put' hap hsj).1 (same_of_put' hap hsj).2)
  unfold atX at h1 ⊢
  rw [(same_of_put (u:=u) hap hsi).2]
  by_cases hwi:Region.wanted oi (yielded ops a.tmps)=true
  ·rw [if_pos hwi] at h1 ⊢
   unfold stepX at h1 ⊢
   cases hki:opKind oi with
   | still =>
    simp only [hki] at h1 ⊢
    obtain ⟨v,e1,e2⟩:=h1
    refine ⟨v,fun w1 hw1=>?_,go _ _ _ hC e2⟩
    have:=e1 w1 hw1
    unfold stillAt at this ⊢
    rw [(same_of_put (u:=u) hap hsi).1]
    exact this
   | act =>
    simp only [hki] at h1 ⊢
    intro w1 hw1
    refine ((h1 w1 hw1).congr (same_of_put (u:=u) hap hsi).1).mono ?_
    rintro v w2 ⟨c1,c2,c3,bs',c4,c5,c6⟩
    exact ⟨c1,c2,c3,bs',c4,c5,go _ _ _ c1 c6⟩
   | make =>
    simp only [hki] at h1 ⊢
    obtain ⟨mk,ob,e1,e2⟩:=h1
    refine ⟨mk,ob,fun w1 hw1=>by rw [(same_of_put (u:=u) hap hsi).1];exact e1 w1 hw1,fun b w1 hw1 hb hN hbs=>?_⟩
    exact go _ _ _ (hG.grow _ _ hC hw1) (e2 b w1 hw1 hb hN hbs)
  ·rw [if_neg hwi] at h1 ⊢
   exact go _ _ _ hC h1
theorem WX_act (hsel:NoSel ops) {j:Nat} {oj:Oper} (hj:ops[j]?=some oj) (hkj:opKind oj=.act) (l2:List Nat) :
  ∀ (l1:List Nat) (bs:Nat → Prop) (a:Act) (w:World),(∀ i ∈ l1,i<ops.size) → (∀ i ∈ l1,Free ops i j) → (∀ i ∈ l1,∀ oi,ops[i]?=some oi → opKind oi=.still) → C w → WX P ops C N Q (l1 ++ j :: l2) bs a w →
   Region.wanted oj (yielded ops a.tmps)=true →
   ActAt P oj a w fun v w2=>C w2∧w.heap.size≤w2.heap.size∧∃ bs':Nat → Prop,(∀ k,bs' k → bs k∨(w.heap.size≤k∧k<w2.heap.size))∧WX P ops C N Q (l1 ++ l2) bs' (a.put oj.dst v) w2:=by
 intro l1
 induction l1 with
 | nil =>
  intro bs a w _ _ _ hC h hw
  have h1:=h oj hj
  unfold atX at h1
  rw [if_pos hw] at h1
  unfold stepX at h1
  simp only [hkj] at h1
  exact (h1 w (Below.refl _ _)).mono fun v w2 ⟨c1,c2,_,bs',_,c5,c6⟩=>⟨c1,c2,bs',c5,c6⟩
 | cons i l1 ih =>
  intro bs a w hin hfr hst hC h hw
  have hin':∀ i ∈ l1,i<ops.size:=fun x hx=>hin x (List.mem_cons_of_mem _ hx)
  have hi:ops[i]?=some (ops[i]'(hin i (List.mem_cons_self ..))):=Array.getElem?_eq_getElem _
  generalize ops[i]'(hin i (List.mem_cons_self ..))=oi at hi
  have hap:=hfr i (List.mem_cons_self ..) oi oj hi hj
  have hsi:=fun cs b=>hsel i oi cs b hi
  have hsj:=fun cs b=>hsel j oj cs b hj
  have hfr':∀ i ∈ l1,Free ops i j:=fun x hx=>hfr x (List.mem_cons_of_mem _ hx)
  have hst':∀ i ∈ l1,∀ oi,ops[i]?=some oi → opKind oi=.still:=fun x hx=>hst x (List.mem_cons_of_mem _ hx)
  have hki:=hst i (List.mem_cons_self ..) oi hi
  have h1:=h oi hi
  have key:∃ v,YieldsC P ops C oi v a∧WX P ops C N Q (l1 ++ j :: l2) bs (a.put oi.dst v) w:=by
   unfold atX at h1
   by_cases hwi:Region.wanted oi (yielded ops a.tmps)=true
   ·rw [if_pos hwi] at h1
    unfold stepX at h1
    simp only [hki] at h1
    obtain ⟨v,e1,e2⟩:=h1
    exact ⟨v,.inl ⟨hwi,e1⟩,e2⟩
   ·rw [if_neg hwi] at h1
    exact ⟨undef,.inr ⟨by simpa using hwi,rfl⟩,h1⟩
  obtain ⟨v,hy,h2⟩:=key
  have h3:=ih bs (a.put oi.dst v) w hin' hfr' hst' hC h2 (by rw [(same_of_put' hap hsj).2];exact hw)
  refine (h3.congr (same_of_put' hap hsj).1.symm).mono ?_
  rintro u w2 ⟨c1,c2,bs',c5,c6⟩
  refine ⟨c1,c2,bs',c5,fun o ho=>?_⟩
  rw [hi] at ho
  obtain rfl:=Option.some.inj ho
  have hy':=hy.fwd (u:=u) hap hsi
  rw [put_swap hap] at c6
  unfold atX stepX
  rcases hy' with ⟨q1,q2⟩|⟨q1,q2⟩
  ·rw [if_pos q1];simp only [hki];exact ⟨v,q2,c6⟩
  ·rw [if_neg (by rw [q1];simp)];rw [← q2];exact c6
def needsB (ops:Array Oper):Nat → Nat → Nat → Bool
 | 0,_,_=>false
 | f+1,j,i=>Region.waitsFor .any ops j i || (List.range ops.size).any fun p=>Region.waitsFor .any ops j p && needsB ops f p i
def Closed (ops:Array Oper) (listed:Array Bool):Prop :=
 ∀ j oj,ops[j]?=some oj → listed.getD j false=true → ∀ e ∈ oj.after,Region.binds .any e=true → listed.getD e.on false=true
theorem needs_listed {listed:Array Bool} (hc:Closed ops listed):∀ (f j i:Nat) (oj:Oper),ops[j]?=some oj → (∀ e ∈ oj.after,Region.binds .any e=true → listed.getD e.on false=true) → needsB ops f j i=true → listed.getD i false=true:=by
 intro f
 induction f with
 | zero=>intro j i oj _ _ h;cases h
 | succ f ih =>
  intro j i oj hj hall h
  have step:∀ p,Region.waitsFor .any ops j p=true → listed.getD p false=true:=fun p hp=>by
   obtain ⟨oj',hj',e,he,hb,hon⟩:=Region.waitsFor_spec hp
   obtain rfl:oj=oj':=Option.some.inj (hj.symm.trans hj')
   rw [← hon];exact hall e he hb
  simp only [needsB,Bool.or_eq_true,List.any_eq_true,Bool.and_eq_true] at h
  rcases h with h|⟨p,_,h1,h2⟩
  ·exact step i h
  ·have hp:=step p h1
   have hps:p<listed.size:=by
    rcases Nat.lt_or_ge p listed.size with h'|h'
    ·exact h'
    ·simp [Array.getElem?_eq_none h'] at hp
   cases hop:ops[p]? with
   | none =>
    cases f with
    | zero=>cases h2
    | succ f =>
     have no:∀ x,Region.waitsFor .any ops p x=false:=fun x=>by unfold Region.waitsFor;rw [hop]
     simp [needsB,no] at h2
   | some op=>exact ih p i op hop (hc p op hop hp) h2
def pairB (ops:Array Oper) (f i j:Nat):Bool :=
 decide (i ≠ j) && !Region.waitsFor .any ops i j &&
  (needsB ops f j i || (match ops[i]?,ops[j]? with
   | some oi,some oj=>oi.apart ops oj && (decide (opKind oj ≠ .act) || decide (opKind oi=.still))
   | _,_=>false))
def pairsB (ops:Array Oper) (f:Nat):List Nat → Bool
 | []=>true
 | i :: l=>l.all (pairB ops f i) && pairsB ops f l
theorem pairsB_spec {f:Nat}:∀ l:List Nat,pairsB ops f l=true → l.Pairwise fun i j=>pairB ops f i j=true
 | [],_=>List.Pairwise.nil
 | i :: l,h=>by
  simp only [pairsB,Bool.and_eq_true] at h
  exact List.Pairwise.cons (fun j hj=>List.all_eq_true.1 h.1 j hj) (pairsB_spec l h.2)
def soundB (ops:Array Oper) (ord:List Nat):Bool :=
 ord.all (fun i=>decide (i<ops.size) && !Region.waitsFor .any ops i i) && (List.range ops.size).all (fun i=>ord.contains i) && ops.all fun o=>o.after.all fun e=>!Region.binds .any e || decide (e.on<ops.size)
def actsB (ops:Array Oper) (f:Nat) (ord:List Nat):Bool:=Region.noSelect ops && pairsB ops f ord && soundB ops ord && decide (ord.length=ops.size)
theorem getD_set_iff {listed:Array Bool} {j k:Nat} (hj:j<listed.size):(listed.setIfInBounds j true).getD k true=false ↔ listed.getD k true=false∧k ≠ j:=by
 by_cases h:j=k
 ·subst h;simp [hj]
 ·rw [getD_set_ne true h];exact ⟨fun x=>⟨x,fun e=>h e.symm⟩,fun x=>x.1⟩
theorem WX_any (hsel:NoSel ops) (hG:Grows C N) (f:Nat) (hrange:∀ (j:Nat) (oj:Oper),ops[j]?=some oj → ∀ e ∈ oj.after,Region.binds .any e=true → e.on<ops.size) (hself:∀ j,j<ops.size → Region.waitsFor .any ops j j=false) :
  ∀ (n:Nat) (l:List Nat) (listed:Array Bool) (bs:Nat → Prop) (a:Act) (w:World),l.length=n → (l.Pairwise fun i j=>pairB ops f i j=true) → (∀ i ∈ l,i<ops.size) → listed.size=ops.size →
   (∀ k,k<ops.size → (listed.getD k true=false ↔ k ∈ l)) → Closed ops listed → C w → (∀ k,bs k → k<w.heap.size) → WX P ops C N Q l bs a w → wpAny P .any ops Q n listed a w:=by
 intro n
 induction n with
 | zero =>
  intro l listed bs a w hn _ _ hsz hun _ _ _ h
  have hl:l=[]:=List.eq_nil_of_length_eq_zero hn
  subst hl
  refine ⟨List.eq_nil_iff_forall_not_mem.2 fun j hj=>?_,h⟩
  obtain ⟨h1,o,ho,_⟩:=mem_ready.1 hj
  have:=(hun j (Array.getElem?_eq_some_iff.1 ho).1).1 h1
  cases this
 | succ n ih =>
  intro l listed bs a w hn hp hin hsz hun hcl hC hbs h
  refine ⟨fun h0=>?_,fun j hj=>?_⟩
  ·-- the first operation of the walk is ready
   match l,hn with
   | i :: l,_ =>
    have hi:=hin i (List.mem_cons_self ..)
    have hi':ops[i]?=some ops[i]:=Array.getElem?_eq_getElem _
    have hr:i ∈ Region.ready .any ops listed:=by
     refine mem_ready.2 ⟨(hun i hi).2 (List.mem_cons_self ..),_,hi',fun e he hb=>?_⟩
     have hes:=hrange i _ hi' e he hb
     have hw:Region.waitsFor .any ops i e.on=true:=by
      unfold Region.waitsFor;rw [hi']
      exact Array.any_eq_true'.2 ⟨e,he,by simp [hb]⟩
     have hnm:e.on ∉ i :: l:=by
      intro hm
      rcases List.mem_cons.1 hm with hm|hm
      ·rw [hm,hself i hi] at hw;cases hw
      ·have:=(List.pairwise_cons.1 hp).1 e.on hm
       simp [pairB,hw] at this
     have hes':e.on<listed.size:=by omega
     cases hg:listed.getD e.on false with
     | true=>rfl
     | false=>exact absurd ((hun e.on hes).1 (getD_in hes' hg)) hnm
    rw [h0] at hr
    cases hr
  ·obtain ⟨hjun,oj,hoj,hall⟩:=mem_ready.1 hj
   have hjs:j<ops.size:=(Array.getElem?_eq_some_iff.1 hoj).1
   have hjl:=(hun j hjs).1 hjun
   obtain ⟨s,t,rfl⟩:=List.append_of_mem hjl
   have hsl:s.length+t.length=n:=by simp at hn;omega
   have hpair:∀ i ∈ s,pairB ops f i j=true:=fun i hi=>(List.pairwise_append.1 hp).2.2 i hi j (List.mem_cons_self ..)
   have hins:∀ i ∈ s,i<ops.size:=fun i hi=>hin i (List.mem_append_left _ hi)
   have hno:∀ i ∈ s,needsB ops f j i=false:=fun i hi=>by
    cases hnb:needsB ops f j i with
    | false=>rfl
    | true =>
     have h1:=needs_listed hcl f j i oj hoj hall hnb
     have h2:=(hun i (hins i hi)).2 (List.mem_append_left _ hi)
     rw [getD_both h2] at h1
     cases h1
   have hsp:∀ i ∈ s,∀ oi,ops[i]?=some oi → oi.apart ops oj=true∧(opKind oj ≠ .act∨opKind oi=.still):=fun i hi oi hoi=>by
    have h1:=hpair i hi
    simp only [pairB,hno i hi,hoi,hoj,Bool.false_or,Bool.and_eq_true,Bool.or_eq_true,decide_eq_true_eq] at h1
    exact h1.2
   have hfr:∀ i ∈ s,Free ops i j:=fun i hi oi oj' hoi hoj'=>by
    obtain rfl:oj=oj':=Option.some.inj (hoj.symm.trans hoj')
    exact (hsp i hi oi hoi).1
   have hnd:j ∉ s ++ t:=by
    intro hm
    rcases List.mem_append.1 hm with hm|hm
    ·have:=hpair j hm;simp [pairB] at this
    ·have:=(List.pairwise_cons.1 (List.pairwise_append.1 hp).2.1).1 j hm;simp [pairB] at this
   have hjsz:j<listed.size:=by omega
   have next:∀ bs' a' w',C w' → (∀ k,bs' k → k<w'.heap.size) → WX P ops C N Q (s ++ t) bs' a' w' → wpAny P .any ops Q n (listed.setIfInBounds j true) a' w':=fun bs' a' w' hC' hb' h'=>by
    refine ih (s ++ t) _ bs' a' w' (by simp;omega) ?_ ?_ (by simpa using hsz) (fun k hk=>?_) ?_ hC' hb' h'
    ·refine List.Pairwise.sublist ?_ hp
     exact List.Sublist.append_left (List.sublist_cons_self j t) s
    ·intro i hi;exact hin i (by rcases List.mem_append.1 hi with h|h;exact List.mem_append_left _ h;exact List.mem_append_right _ (List.mem_cons_of_mem _ h))
    ·rw [getD_set_iff hjsz,hun k hk]
     constructor
     ·rintro ⟨h1,h2⟩
      rcases List.mem_append.1 h1 with h1|h1
      ·exact List.mem_append_left _ h1
      ·rcases List.mem_cons.1 h1 with h1|h1
       ·exact absurd h1 h2
       ·exact List.mem_append_right _ h1
     ·intro h1
      refine ⟨?_,fun e=>hnd (e ▸ h1)⟩
      rcases List.mem_append.1 h1 with h1|h1
      ·exact List.mem_append_left _ h1
      ·exact List.mem_append_right _ (List.mem_cons_of_mem _ h1)
    ·intro k ok hok hlk e he hb
     by_cases hkj:j=k
     ·subst hkj
      obtain rfl:ok=oj:=Option.some.inj (hok.symm.trans hoj)
      exact getD_set_true (hall e he hb)
     ·rw [getD_set_ne false hkj] at hlk
      exact getD_set_true (hcl k ok hok hlk e he hb)
   unfold wpOp
   simp only [hoj]
   by_cases hw:Region.wanted oj (yielded ops a.tmps)=true
   ·rw [if_pos hw]
    left
    cases hk:opKind oj with
    | still =>
     obtain ⟨a',bs',w',hC',e1,e2,h1⟩:=WX_reach hsel hG hoj t s bs a w hins hfr hC hbs h
     have h2:=h1 oj hoj
     unfold atX stepX at h2
     rw [if_pos (by rw [e2];exact hw)] at h2
     simp only [hk] at h2
     obtain ⟨v,h3,_⟩:=h2
     have hy:YieldsC P ops C oj v a:=.inl ⟨hw,fun w1 hw1=>by have:=h3 w1 hw1;unfold stillAt at this ⊢;rw [← e1];exact this⟩
     have h4:=WX_still hsel hG hoj t s bs a w hfr hC h (.inl hk) hy
     refine wp_of_gOp (C:=C) (K:=fun a' w'=>WX P ops C N Q (s ++ t) bs a' w'∧w'=w) hC (fun a' w' hC' h5=>next bs a' w' hC' (by rw [h5.2];exact hbs) h5.1) (.inl ⟨v,(hy.resolve_right fun hh=>by rw [hh.1] at hw;cases hw).2,h4,rfl⟩)
    | act =>
     have h1:=WX_act hsel hoj hk t s bs a w hins hfr (fun i hi oi hoi=>((hsp i hi oi hoi).2).resolve_left (by simp [hk])) hC h hw
     exact h1.wp fun v w2 ⟨c1,c2,bs',c5,c6⟩=>next bs' _ w2 c1 (fun k hk'=>by rcases c5 k hk' with h5|h5;(have:=hbs k h5;omega);exact h5.2) c6
    | make =>
     obtain ⟨a',bs',w',hC',e1,e2,h1⟩:=WX_reach hsel hG hoj t s bs a w hins hfr hC hbs h
     have h2:=h1 oj hoj
     unfold atX stepX at h2
     rw [if_pos (by rw [e2];exact hw)] at h2
     simp only [hk] at h2
     obtain ⟨mk,ob,h3,_⟩:=h2
     have h4:=h3 w hC
     rw [e1] at h4
     have hB:=hG.base w hC
     have h5:=WX_resolve hsel hoj hk hC rfl t s bs a w (w.alloc ob) hfr h hw h4 (alloc_below w ob) (heap_alloc_new w ob) hB (fun hh=>by have:=hbs _ hh;omega)
     unfold Oper.wp
     rw [h4,Oper.upon_value]
     exact next _ _ _ (hG.grow _ _ hC (alloc_below w ob)) (fun k hk'=>by rcases hk' with rfl|hk';simp;(have:=hbs k hk';simp;omega)) h5
   ·rw [if_neg hw]
    have hy:YieldsC P ops C oj undef a:=.inr ⟨by simpa using hw,rfl⟩
    exact next bs _ w hC hbs (WX_still hsel hG hoj t s bs a w hfr hC h (.inr (by simpa using hw)) hy)
theorem region_acts {id:Nat} {a:Act} {w:World} {l:List Oper} (f:Nat) (ord:List Nat) (hm:P.follows .mixedOrders=true) (hB:actsB l.toArray f ord=true)
  (hG:Grows C N) (hC:C w.drew) (h:WX P l.toArray C N Q ord (fun _=>False) a w.drew):(Code.region id l.toArray true).wp P Q a w:=by
 simp only [actsB,Bool.and_eq_true,decide_eq_true_eq] at hB
 obtain ⟨⟨⟨hsel,hpairs⟩,hsound⟩,hlen⟩:=hB
 simp only [soundB,Bool.and_eq_true,List.all_eq_true,decide_eq_true_eq,Bool.not_eq_true',List.mem_range,List.contains_iff_mem] at hsound
 obtain ⟨⟨h1,h2⟩,h3⟩:=hsound
 refine wp_region_any hm ?_
 rw [← hlen]
 refine WX_any (Region.noSelect_spec hsel) hG f (fun j oj hj e he hb=>?_) (fun j hj=>(h1 j (h2 j hj)).2) ord.length ord _ (fun _=>False) a _ rfl (pairsB_spec ord hpairs) (fun i hi=>(h1 i hi).1) (by simpa using hlen) (fun k hk=>?_) (fun j oj _ hl=>?_) hC (fun k hk=>hk.elim) h
 ·have h4:=Array.all_eq_true'.1 h3 oj (Array.mem_of_getElem? hj)
  have h5:=Array.all_eq_true'.1 h4 e he
  simpa [hb] using h5
 ·exact ⟨fun _=>h2 k hk,fun _=>by rw [getD_in (by simpa [hlen] using hk) (getD_replicate_false _ _)]⟩
 ·rw [getD_replicate_false] at hl;cases hl
structure Exc (T:Nat → Prop) (w w':World):Prop where
 os:w'.os=w.os
 tape:w'.tape=w.tape
 output:w'.output=w.output
 size:w.heap.size≤w'.heap.size
 block:∀ k,k<w.heap.size → ¬ T k → w'.heap[k]?=w.heap[k]?
theorem Exc.refl (T:Nat → Prop) (w:World):Exc T w w:=⟨rfl,rfl,rfl,Nat.le_refl _,fun _ _ _=>rfl⟩
theorem Exc.below {T:Nat → Prop} {w0 w w':World} (h:Exc T w0 w) (hb:Below w.heap.size w w'):Exc T w0 w' :=
 ⟨hb.os.trans h.os,hb.tape.trans h.tape,hb.output.trans h.output,Nat.le_trans h.size hb.size,fun k hk ht=>(hb.block k (Nat.lt_of_lt_of_le hk h.size)).trans (h.block k hk ht)⟩
theorem Exc.grows (T:Nat → Prop) (w0:World):Grows (Exc T w0) w0.heap.size:=⟨fun _ _ h hb=>h.below hb,fun _ h=>h.size⟩
theorem Exc.cell {T:Nat → Prop} {w0 w:World} (h:Exc T w0 w):(∀ b o,b<w0.heap.size → ¬ T b → w.cell? ⟨b,o,none⟩=w0.cell? ⟨b,o,none⟩)∧(∀ b o,b<w0.heap.size → ¬ T b → w.frozen? ⟨b,o,none⟩=w0.frozen? ⟨b,o,none⟩) :=
 ⟨fun b o hb ht=>World.cell?_of_block (w:=w0) (h.block b hb ht),fun b o hb ht=>World.frozen?_of_block (w:=w0) (h.block b hb ht)⟩
def NoT:Nat → Prop:=fun _=>False
theorem Exc.toBelow {w0 w:World} (h:Exc NoT w0 w):Below w0.heap.size w0 w:=⟨h.os,h.tape,h.output,h.size,fun k hk=>h.block k hk (fun h=>h)⟩
theorem Below.exc {T:Nat → Prop} {w0 w:World} (h:Below w0.heap.size w0 w):Exc T w0 w:=(Exc.refl T w0).below h
theorem x_nil {bs:Nat → Prop} {a:Act} {w:World} (h:Q .normal a w):WX P ops C N Q [] bs a w:=h
theorem x_still {i:Nat} {l:List Nat} {bs:Nat → Prop} {a:Act} {w:World} {o:Oper} (ho:ops[i]?=some o) (hk:opKind o=.still) (hg:o.guard=none)
  (h:∀ K:(Nat → Prop) → Act → World → Prop,(∀ bs a w,WX P ops C N Q l bs a w → K bs a w) → ∃ v,(∀ w',C w' → (execOp a.eval o).run P w'=.ok (.value v) w')∧K bs (a.put o.dst v) w):WX P ops C N Q (i :: l) bs a w:=by
 intro o' ho'
 rw [ho] at ho'
 obtain rfl:=Option.some.inj ho'
 obtain ⟨v,h1,h2⟩:=h _ fun _ _ _ h=>h
 unfold atX stepX
 rw [if_pos (by simp [Region.wanted,hg])]
 simp only [hk]
 exact ⟨v,fun w' hw'=>.inl (h1 w' hw'),h2⟩
theorem x_sT {T:Nat → Prop} {w0:World} {i:Nat} {l:List Nat} {bs:Nat → Prop} {a:Act} {w:World} {o:Oper} {v:Value} (ho:ops[i]?=some o) (hk:opKind o=.still) (hg:o.guard=none)
  (h1:∀ w',(∀ b o,b<w0.heap.size → ¬ T b → w'.cell? ⟨b,o,none⟩=w0.cell? ⟨b,o,none⟩) → (∀ b o,b<w0.heap.size → ¬ T b → w'.frozen? ⟨b,o,none⟩=w0.frozen? ⟨b,o,none⟩) → (execOp a.eval o).run P w'=.ok (.value v) w')
  (h:∀ K:(Nat → Prop) → Act → World → Prop,(∀ bs a w,WX P ops (Exc T w0) N Q l bs a w → K bs a w) → K bs (a.put o.dst v) w):WX P ops (Exc T w0) N Q (i :: l) bs a w :=
 x_still ho hk hg fun K hK=>⟨v,fun w' hw'=>h1 w' hw'.cell.1 hw'.cell.2,h K hK⟩
theorem x_st {w0:World} {i:Nat} {l:List Nat} {bs:Nat → Prop} {a:Act} {w:World} {o:Oper} {v:Value} (ho:ops[i]?=some o) (hk:opKind o=.still) (hg:o.guard=none)
  (h1:∀ w',(∀ b o,b<w0.heap.size → w'.cell? ⟨b,o,none⟩=w0.drew.cell? ⟨b,o,none⟩) → (∀ b o,b<w0.heap.size → w'.frozen? ⟨b,o,none⟩=w0.drew.frozen? ⟨b,o,none⟩) → (execOp a.eval o).run P w'=.ok (.value v) w')
  (h:∀ K:(Nat → Prop) → Act → World → Prop,(∀ bs a w,WX P ops (Exc NoT w0.drew) N Q l bs a w → K bs a w) → K bs (a.put o.dst v) w):WX P ops (Exc NoT w0.drew) N Q (i :: l) bs a w :=
 x_still ho hk hg fun K hK=>⟨v,fun w' hw'=>h1 w' (fun b o hb=>hw'.cell.1 b o (by simpa using hb) (fun h=>h)) (fun b o hb=>hw'.cell.2 b o (by simpa using hb) (fun h=>h)),h K hK⟩
theorem x_skip {i:Nat} {l:List Nat} {bs:Nat → Prop} {a:Act} {w:World} {o:Oper} (ho:ops[i]?=some o)
  (h:∀ K:(Nat → Prop) → Act → World → Prop,(∀ bs a w,WX P ops C N Q l bs a w → K bs a w) → Region.wanted o (yielded ops a.tmps)=false∧K bs (a.put o.dst undef) w):WX P ops C N Q (i :: l) bs a w:=by
 intro o' ho'
 rw [ho] at ho'
 obtain rfl:=Option.some.inj ho'
 obtain ⟨h1,h2⟩:=h _ fun _ _ _ h=>h
 unfold atX
 rw [if_neg (by rw [h1];simp)]
 exact h2
theorem x_stillg {i:Nat} {l:List Nat} {bs:Nat → Prop} {a:Act} {w:World} {o:Oper} (ho:ops[i]?=some o) (hk:opKind o=.still)
  (h:∀ K:(Nat → Prop) → Act → World → Prop,(∀ bs a w,WX P ops C N Q l bs a w → K bs a w) → Region.wanted o (yielded ops a.tmps)=true∧∃ v,(∀ w',C w' → (execOp a.eval o).run P w'=.ok (.value v) w')∧K bs (a.put o.dst v) w):WX P ops C N Q (i :: l) bs a w:=by
 intro o' ho'
 rw [ho] at ho'
 obtain rfl:=Option.some.inj ho'
 obtain ⟨hw,v,h1,h2⟩:=h _ fun _ _ _ h=>h
 unfold atX stepX
 rw [if_pos hw]
 simp only [hk]
 exact ⟨v,fun w' hw'=>.inl (h1 w' hw'),h2⟩
theorem x_sg {w0:World} {i:Nat} {l:List Nat} {bs:Nat → Prop} {a:Act} {w:World} {o:Oper} {v:Value} (ho:ops[i]?=some o) (hk:opKind o=.still) (hw:Region.wanted o (yielded ops a.tmps)=true)
  (h1:∀ w',(∀ b o,b<w0.heap.size → w'.cell? ⟨b,o,none⟩=w0.drew.cell? ⟨b,o,none⟩) → (∀ b o,b<w0.heap.size → w'.frozen? ⟨b,o,none⟩=w0.drew.frozen? ⟨b,o,none⟩) → (execOp a.eval o).run P w'=.ok (.value v) w')
  (h:∀ K:(Nat → Prop) → Act → World → Prop,(∀ bs a w,WX P ops (Exc NoT w0.drew) N Q l bs a w → K bs a w) → K bs (a.put o.dst v) w):WX P ops (Exc NoT w0.drew) N Q (i :: l) bs a w :=
 x_stillg ho hk fun K hK=>⟨hw,v,fun w' hw'=>h1 w' (fun b o hb=>hw'.cell.1 b o (by simpa using hb) (fun h=>h)) (fun b o hb=>hw'.cell.2 b o (by simpa using hb) (fun h=>h)),h K hK⟩
theorem x_callg {i:Nat} {l:List Nat} {bs:Nat → Prop} {a:Act} {w:World} {o:Oper} (ho:ops[i]?=some o) (hk:opKind o=.act) (hG:Grows C N) (hC:C w) (f:FuncId)
  (h:∀ K:(Nat → Prop) → Act → World → Prop,(∀ bs a w,WX P ops C N Q l bs a w → K bs a w) → Region.wanted o (yielded ops a.tmps)=true∧∃ args,(∀ w',C w' → (execOp a.eval o).run P w'=.ok (.enter f args) w') ∧
   ∀ w1,C w1 → Below w.heap.size w w1 → Calls P f args w1 fun e w2=>∃ v,e=.returned v∧Below w1.heap.size w1 w2∧(C w2 → K bs (a.put o.dst v) w2)):WX P ops C N Q (i :: l) bs a w:=by
 intro o' ho'
 rw [ho] at ho'
 obtain rfl:=Option.some.inj ho'
 obtain ⟨hw,args,h1,h2⟩:=h _ fun _ _ _ h=>h
 unfold atX stepX
 rw [if_pos hw]
 simp only [hk]
 intro w1 hw1
 have hC1:=hG.grow _ _ hC hw1
 unfold ActAt
 rw [h1 w1 hC1]
 refine (h2 w1 hC1 hw1).mono ?_
 rintro e w2 ⟨v,e1,e2,e3⟩
 exact ⟨v,e1,hG.grow _ _ hC1 e2,e2.size,fun k _ _ hk=>e2.block k hk,bs,fun _ h=>h,fun _ h=>.inl h,e3 (hG.grow _ _ hC1 e2)⟩
theorem x_call {i:Nat} {l:List Nat} {bs:Nat → Prop} {a:Act} {w:World} {o:Oper} (ho:ops[i]?=some o) (hk:opKind o=.act) (hg:o.guard=none) (hG:Grows C N) (hC:C w) (f:FuncId)
  (h:∀ K:(Nat → Prop) → Act → World → Prop,(∀ bs a w,WX P ops C N Q l bs a w → K bs a w) → ∃ args,(∀ w',C w' → (execOp a.eval o).run P w'=.ok (.enter f args) w') ∧
   ∀ w1,C w1 → Below w.heap.size w w1 → Calls P f args w1 fun e w2=>∃ v,e=.returned v∧Below w1.heap.size w1 w2∧(C w2 → K bs (a.put o.dst v) w2)):WX P ops C N Q (i :: l) bs a w :=
 x_callg ho hk hG hC f fun K hK=>⟨by simp [Region.wanted,hg],h K hK⟩
theorem x_do {i:Nat} {l:List Nat} {bs:Nat → Prop} {a:Act} {w:World} {o:Oper} (ho:ops[i]?=some o) (hk:opKind o=.act) (hg:o.guard=none) (hG:Grows C N) (hC:C w)
  (h:∀ K:(Nat → Prop) → Act → World → Prop,(∀ bs a w,WX P ops C N Q l bs a w → K bs a w) → ∀ w1,C w1 → Below w.heap.size w w1 → ∃ w2,(execOp a.eval o).run P w1=.ok .skip w2 ∧
   (C w2∧w1.heap.size≤w2.heap.size∧∀ k,N≤k → ¬ bs k → k<w1.heap.size → w2.heap[k]?=w1.heap[k]?)∧K bs (a.put o.dst undef) w2):WX P ops C N Q (i :: l) bs a w:=by
 intro o' ho'
 rw [ho] at ho'
 obtain rfl:=Option.some.inj ho'
 unfold atX stepX
 rw [if_pos (by simp [Region.wanted,hg])]
 simp only [hk]
 intro w1 hw1
 obtain ⟨w2,h1,⟨h2,h3,h4⟩,h5⟩:=h _ (fun _ _ _ h=>h) w1 (hG.grow _ _ hC hw1) hw1
 unfold ActAt
 rw [h1]
 exact ⟨h2,h3,h4,bs,fun _ h=>h,fun _ h=>.inl h,h5⟩
theorem x_make {i:Nat} {l:List Nat} {bs:Nat → Prop} {a:Act} {w:World} {o:Oper} (ho:ops[i]?=some o) (hk:opKind o=.make) (hg:o.guard=none) (hG:Grows C N) (hC:C w) (mk:Nat → Value)
  (h:∀ K:(Nat → Prop) → Act → World → Prop,(∀ bs a w,WX P ops C N Q l bs a w → K bs a w) → ∃ ob,(∀ w',C w' → (execOp a.eval o).run P w'=.ok (.value (mk w'.heap.size)) (w'.alloc ob)) ∧
   ∀ b w',C w' → Below w.heap.size w w' → w'.heap[b]?=some ob → N≤b → ¬ bs b → K (fun k=>k=b∨bs k) (a.put o.dst (mk b)) w'):WX P ops C N Q (i :: l) bs a w:=by
 intro o' ho'
 rw [ho] at ho'
 obtain rfl:=Option.some.inj ho'
 obtain ⟨ob,h1,h2⟩:=h _ fun _ _ _ h=>h
 unfold atX stepX
 rw [if_pos (by simp [Region.wanted,hg])]
 simp only [hk]
 exact ⟨mk,ob,h1,fun b w' hw' hb hN hbs=>h2 b w' (hG.grow _ _ hC hw') hw' hb hN hbs⟩
theorem made_cell {w:World} {b:Nat} {cs:Array Value} {t:TypeId} (h:w.heap[b]?=some (.cells cs t)):(∀ o,w.cell? ⟨b,o,none⟩=cs[o]?)∧(∀ o,w.frozen? ⟨b,o,none⟩=false)∧b<w.heap.size :=
 ⟨fun o=>cell_of_row w b o cs t (0,0) h,fun o=>frozen_of_row w b o cs t h,(Array.getElem?_eq_some_iff.1 h).1⟩
theorem exc_set {T:Nat → Prop} {w0 w:World} (h:Exc T w0 w) {a:Addr} (ha:w0.heap.size≤a.block∨T a.block) (u:Value):Exc T w0 (w.setCell a u) :=
 ⟨h.os,h.tape,h.output,by simpa [World.setCell] using h.size,fun k hk ht=>by
  rw [Below.heap_setCell _ _ _ _ (by rintro rfl;rcases ha with ha|ha;omega;exact ht ha)];exact h.block k hk ht⟩
end
end Go.Proofs.YtbljmfcifljkaaaGreatDoor
/-
  Append steps of the walk of a drawn region (Acts). Own work.
-/
namespace Go.Proofs.YtbljmfcifljkaaaGreatDoor
open Go.RowKit
section
variable {P:Program} {ops:Array Oper} {Q:Exit → Act → World → Prop} {T:Nat → Prop} {w0:World}
theorem Exc.grown {w w':World} {row:Option Nat} (h:Exc T w0 w) (hg:w.grownBy w' row) (hr:∀ k,row=some k → w0.heap.size≤k∨T k):Exc T w0 w' :=
 ⟨hg.os.trans h.os,hg.tape.trans h.tape,hg.output.trans h.output,Nat.le_trans h.size hg.size,fun k hk ht=>by
  rw [hg.block k (Nat.lt_of_lt_of_le hk h.size) (fun e=>by rcases hr k e.symm with h'|h';omega;exact ht h')];exact h.block k hk ht⟩
end
end Go.Proofs.YtbljmfcifljkaaaGreatDoor
/-
  Whole blocks of cells: what a store leaves in them. Own work.
-/
namespace Go.Proofs.YtbljmfcifljkaaaGreatDoor
open Go.RowKit
def Bk (w:World) (b:Nat) (t:TypeId) (cs:Array Value):Prop:=w.heap[b]?=some (.cells cs t)
theorem Bk.new (w:World) (t:TypeId) (cs:Array Value):Bk (w.alloc (.cells cs t)) w.heap.size t cs:=by
 show (w.heap.push _)[w.heap.size]?=_
 simp
theorem Bk.lt {w:World} {b:Nat} {t:TypeId} {cs:Array Value} (h:Bk w b t cs):b<w.heap.size:=(Array.getElem?_eq_some_iff.1 h).1
theorem Bk.keep {w w':World} {b:Nat} {t:TypeId} {cs:Array Value} (hb:Below w.heap.size w w') (h:Bk w b t cs):Bk w' b t cs:=(hb.block b h.lt).trans h
theorem Bk.alloc {w:World} {b:Nat} {t:TypeId} {cs:Array Value} (h:Bk w b t cs) (o:Obj):Bk (w.alloc o) b t cs:=h.keep (alloc_below _ _)
theorem Bk.other {w:World} {b:Nat} {t:TypeId} {cs:Array Value} (h:Bk w b t cs) (a:Addr) (v:Value) (hne:b ≠ a.block):Bk (w.setCell a v) b t cs:=(Below.heap_setCell _ _ _ _ hne).trans h
theorem Bk.set {w:World} {b:Nat} {t:TypeId} {cs:Array Value} (h:Bk w b t cs) (i:Nat) (v:Value):Bk (w.setCell ⟨b,i,none⟩ v) b t (cs.setIfInBounds i v):=by
 have hz:=h.lt
 unfold Bk at h ⊢
 simp only [World.setCell,Array.getElem?_modify,h]
 simp
theorem Bk.cell {w:World} {b:Nat} {t:TypeId} {cs:Array Value} (h:Bk w b t cs):(∀ o,w.cell? ⟨b,o,none⟩=cs[o]?)∧(∀ o,w.frozen? ⟨b,o,none⟩=false)∧b<w.heap.size:=made_cell h
theorem Bk.exc {w w':World} {T:Nat → Prop} {b:Nat} {t:TypeId} {cs:Array Value} (hE:Exc T w w') (h:Bk w b t cs) (hT:¬ T b):Bk w' b t cs:=(hE.block b h.lt hT).trans h
end Go.Proofs.YtbljmfcifljkaaaGreatDoor
/-
  The walk of generatorWires, a case a kind. Own work.
-/
namespace Go.Proofs.YtbljmfcifljkaaaGreatDoor
open Go.RowKit
theorem generatorWires_any (k:Int) (w:World) (h0:3≤k) (h1:k≤14) :
  Calls Tryz.prog 243 #[.int .i64 k] w fun e w'=>e=.returned (.agg #[.int .i64 (kindW k).1,.int .i64 (kindW k).2])∧Below w.heap.size w w':=by
 have hk:k=3∨k=4∨k=5∨k=6∨k=7∨k=8∨k=9∨k=10∨k=11∨k=12∨k=13∨k=14:=by omega
 rcases hk with rfl|rfl|rfl|rfl|rfl|rfl|rfl|rfl|rfl|rfl|rfl|rfl
 all_goals
  go_enter Tryz.func243,Tryz.ntmps243
  go_wp2
  refine bodyPost_ret (v:=.agg #[.int .i64 _,.int .i64 _]) (by simp [results,Tryz.results243,go_sem];exact ⟨rfl,rfl⟩) rfl ⟨by simp [kindW],?_⟩
  repeat (first|exact Below.refl _ _|refine Below.alloc ?_ (by simp <;> omega) _)
end Go.Proofs.YtbljmfcifljkaaaGreatDoor
