/-
  strings.Replacer: made of five letters and their texts, it replaces. Own work.
-/
import Derived.Test.YtbljmfcifljkaaaGreatDoorYRR
import Derived.Test.YtbljmfcifljkaaaGreatDoorYAX
set_option linter.all false
set_option maxRecDepth 100000
set_option maxHeartbeats 8000000
namespace Go.Proofs.YtbljmfcifljkaaaGreatDoor
open Go.RowKit
set_option maxRecDepth 100000
set_option maxHeartbeats 4000000
def by0 (x:ByteArray):Nat:=(x.data.toList.headD 0).toNat
def gB (x0 x1 x2 x3 x4:ByteArray) (j:Nat):Nat:=if j=75 then by0 x0 else if j=76 then by0 x1 else if j=77 then by0 x2 else if j=83 then by0 x3 else if j=78 then by0 x4 else j
def RpSt (w:World) (b:Nat) (x0 x1 x2 x3 x4:ByteArray):Prop :=
 (∃ g c,RpNew w b (.slice (some ⟨g,0,none⟩) 10 c) [x0,x1,x2,x3,x4]∧g<b) ∨
 (∃ r,RpHas w b 1 0 r∧TabP (gB x0 x1 x2 x3 x4) b w r∧x0.size=1∧x1.size=1∧x2.size=1∧x3.size=1∧x4.size=1) ∨
 (∃ r,RpHas w b 1 0 r∧StrP (lxL [x0,x1,x2,x3,x4]) b w r)
theorem RpHas.keep {w w':World} {b:Nat} {c m:Int} {r:Value} (h:RpHas w b c m r) (hb:Below w.heap.size w w'):RpHas w' b c m r :=
 ⟨cell_keep hb h.c0,cell_keep hb h.c1,cell_keep hb h.c3,fun j=>(hb.frozen (p:=⟨b,j,none⟩) (cell_lt h.c0)).trans (h.fz j)⟩
theorem OnAt.keep {w w':World} {v:Value} {xs:List ByteArray} (h:OnAt w v xs) (hb:Below w.heap.size w w'):OnAt w' v xs:=by
 obtain ⟨h1,g,o,c,h2,h3,h4⟩:=h
 exact ⟨h1,g,o,c,h2,h3,fun k hk=>⟨cell_keep hb (h4 k hk).1,cell_keep hb (h4 k hk).2⟩⟩
theorem RpNew.keep {w w':World} {b:Nat} {v:Value} {xs:List ByteArray} (h:RpNew w b v xs) (hb:Below w.heap.size w w'):RpNew w' b v xs :=
 ⟨cell_keep hb h.c0,cell_keep hb h.c1,cell_keep hb h.c3,cell_keep hb h.c4,fun j=>(hb.frozen (p:=⟨b,j,none⟩) (cell_lt h.c0)).trans (h.fz j),h.on.keep hb⟩
theorem RpSt.keep {w w':World} {b:Nat} {x0 x1 x2 x3 x4:ByteArray} (h:RpSt w b x0 x1 x2 x3 x4) (hb:Below w.heap.size w w'):RpSt w' b x0 x1 x2 x3 x4:=by
 rcases h with ⟨g,c,h1,h2⟩|⟨r,h1,⟨tb,h2,h3,h4⟩,h5⟩|⟨r,h1,h2⟩
 ·exact .inl ⟨g,c,h1.keep hb,h2⟩
 ·exact .inr (.inl ⟨r,h1.keep hb,⟨tb,h2,h3,h4.keep hb⟩,h5⟩)
 ·exact .inr (.inr ⟨r,h1.keep hb,h2.keep hb⟩)
theorem RpSt.grown {w w':World} {b:Nat} {x0 x1 x2 x3 x4:ByteArray} {row:Option Nat} (h:RpSt w b x0 x1 x2 x3 x4) (hg:w.grownBy w' row) (hr:∀ k,row=some k → b<k∧∃ cs fr,w.heap[k]?=some (.cells cs 32 fr)):RpSt w' b x0 x1 x2 x3 x4:=by
 have hk:∀ (k:Nat) (cs:Array Value) (t:TypeId) (fr:Nat × Nat),w.heap[k]?=some (Obj.cells cs t fr) → t ≠ 32 → w'.heap[k]?=w.heap[k]?:=fun k cs t fr h1 h2=>hg.block k (Array.getElem?_eq_some_iff.1 h1).1 (fun e=>by
  obtain ⟨_,cs',fr',h3⟩:=hr k e.symm
  rw [h1] at h3
  simp only [Option.some.injEq,Obj.cells.injEq] at h3
  exact h2 h3.2.1)
 have hb:∀ k,k≤b → k<w.heap.size → w'.heap[k]?=w.heap[k]?:=fun k h1 h2=>hg.block k h2 (fun e=>by have:=(hr k e.symm).1;omega)
 have hc:∀ {k j:Nat} {u:Value},k≤b → w.cell? ⟨k,j,none⟩=some u → w'.cell? ⟨k,j,none⟩=some u:=fun h1 h2=>(World.cell?_of_block (hb _ h1 (cell_lt h2))).trans h2
 have hhas:∀ {c m:Int} {r:Value},RpHas w b c m r → RpHas w' b c m r:=fun h=>⟨hc (Nat.le_refl _) h.c0,hc (Nat.le_refl _) h.c1,hc (Nat.le_refl _) h.c3,fun j=>(World.frozen?_of_block (a:=⟨b,j,none⟩) (hb b (Nat.le_refl _) (cell_lt h.c0))).trans (h.fz j)⟩
 rcases h with ⟨g,c,h1,h2⟩|⟨r,h1,⟨tb,h2,h3,h4⟩,h5⟩|⟨r,h1,B,tb,gt,h2,h3,f,k1,k2,k3,k4,k5,k6,k7⟩
 ·refine .inl ⟨g,c,⟨hc (Nat.le_refl _) h1.c0,hc (Nat.le_refl _) h1.c1,hc (Nat.le_refl _) h1.c3,hc (Nat.le_refl _) h1.c4,fun j=>(World.frozen?_of_block (a:=⟨b,j,none⟩) (hb b (Nat.le_refl _) (cell_lt h1.c0))).trans (h1.fz j),?_⟩,h2⟩
  obtain ⟨q1,g',o,c',q2,q3,q4⟩:=h1.on
  simp only [Value.slice.injEq,Option.some.injEq,Addr.mk.injEq,and_true,true_and] at q2
  obtain ⟨⟨rfl,rfl⟩,rfl⟩:=q2
  exact ⟨q1,g,0,c,rfl,q3,fun k hk=>⟨hc (by omega) (q4 k hk).1,hc (by omega) (q4 k hk).2⟩⟩
 ·exact .inr (.inl ⟨r,hhas h1,⟨tb,h2,h3,(hk tb _ _ _ h4 (by decide)).trans h4⟩,h5⟩)
 ·have hgt:w'.heap[gt]?=w.heap[gt]?:=by
   rcases k6.2 with ⟨e,_⟩|⟨g,cap,cur,e,_,e2,_⟩
   ·rw [k5] at e;cases e
   ·rw [k5] at e
    simp only [Value.slice.injEq,Option.some.injEq,Addr.mk.injEq,and_true,true_and] at e
    rw [← e.1] at e2
    exact hk gt _ _ _ e2 (by decide)
  refine .inr (.inr ⟨r,hhas h1,B,tb,gt,h2,h3,f,(hk tb _ _ _ k1 (by decide)).trans k1,k2,k3,k4,k5,owns_blk k6 (fun k e=>by rw [k5] at e;simp [Value.ownBlock] at e;subst e;exact hgt),fun c=>?_⟩)
  have h9:=k7 c
  cases hd:dN (lxL [x0,x1,x2,x3,x4]) c with
  | none=>rw [hd] at h9;exact h9
  | some t =>
   rw [hd] at h9
   obtain ⟨g,cap,e,q1,q2,⟨q3,cs,fr,q4⟩,q5⟩:=h9
   have hgg:=hk g _ _ _ q4 (by decide)
   exact ⟨g,cap,e,q1,q2,⟨q3,cs,fr,hgg.trans q4⟩,fun j hj=>(World.cell?_of_block hgg).trans (q5 j hj)⟩
end Go.Proofs.YtbljmfcifljkaaaGreatDoor
