/-
  sync.Once in one goroutine: the first Do, and one that is done already. Own work, in the frame of the guide's LazyParts, LazySlow, LazyWalks. (Type numbers 392, 396: the third seat's.)
-/
import Derived.Test.YtbljmfcifljkaaaGreatDoorYC
import Derived.Tactics
import Derived.Tactics2
import Derived.Defers
import Derived.Laws.Pointers
import Derived.Laws.LoneSync
import Derived.RegionTactic
import Derived.RegionCalls
import Derived.Laws.NewBlocks
import Derived.Deep.WholeRow
import Derived.Lib.AppendIntMem
import Derived.Test.YtbljmfcifljkaaaGreatDoorYB
set_option linter.all false
set_option maxRecDepth 100000
set_option maxHeartbeats 8000000
namespace Go.Proofs.YtbljmfcifljkaaaGreatDoor
set_option maxRecDepth 100000
set_option maxHeartbeats 2000000
end Go.Proofs.YtbljmfcifljkaaaGreatDoor
/-
  strings.Replacer: its table is made. Own work.
-/
namespace Go.Proofs.YtbljmfcifljkaaaGreatDoor
open Go.RowKit
set_option maxRecDepth 100000
set_option maxHeartbeats 4000000
def repK:List Nat:=[75,76,77,83,78]
structure OnAt (w:World) (v:Value) (xs:List ByteArray):Prop where
 len:xs.length=5
 at':∃ g o c,v=.slice (some ⟨g,o,none⟩) 10 c∧10≤c∧∀ k,∀ h:k<5,w.cell? ⟨g,o+2 * k,none⟩=some (.string ⟨#[UInt8.ofNat (repK.getD k 0)]⟩)∧w.cell? ⟨g,o+(2 * k+1),none⟩=some (.string (xs[k]'(by omega)))
def tabV (n:Nat) (f:Nat → Value):Array Value:=(Array.range n).map f
theorem tabV_size (n:Nat) (f:Nat → Value):(tabV n f).size=n:=by simp [tabV]
theorem tabV_get (n:Nat) (f:Nat → Value) (j:Nat) (h:j<n):(tabV n f)[j]?=some (f j):=by simp [tabV,h]
def TabAt (w:World) (tb:Nat) (t:TypeId) (n:Nat) (f:Nat → Value):Prop:=w.heap[tb]?=some (.cells (tabV n f) t (0,0))
theorem TabAt.cell {w:World} {tb:Nat} {t:TypeId} {n:Nat} {f:Nat → Value} (h:TabAt w tb t n f) (j:Nat) (hj:j<n):w.cell? ⟨tb,j,none⟩=some (f j):=by
 rw [cell_of_row _ _ j _ t (0,0) h,tabV_get n f j hj]
theorem TabAt.froz {w:World} {tb:Nat} {t:TypeId} {n:Nat} {f:Nat → Value} (h:TabAt w tb t n f) (j:Nat):w.frozen? ⟨tb,j,none⟩=false:=by
 unfold World.frozen?
 rw [h]
 simp
theorem TabAt.lt {w:World} {tb:Nat} {t:TypeId} {n:Nat} {f:Nat → Value} (h:TabAt w tb t n f):tb<w.heap.size:=(Array.getElem?_eq_some_iff.1 h).1
theorem TabAt.keep {w w':World} {tb:Nat} {t:TypeId} {n:Nat} {f:Nat → Value} (h:TabAt w tb t n f) (hb:Below w.heap.size w w'):TabAt w' tb t n f:=(hb.block tb h.lt).trans h
theorem TabAt.set {w:World} {tb:Nat} {t:TypeId} {n:Nat} {f:Nat → Value} (h:TabAt w tb t n f) (j:Nat) (hj:j<n) (v:Value):TabAt (w.setCell ⟨tb,j,none⟩ v) tb t n (fun i=>if i=j then v else f i):=by
 unfold TabAt World.setCell
 simp only [Array.getElem?_modify,if_pos]
 rw [h]
 simp only [Option.map_some,Option.some.injEq,Obj.cells.injEq,and_true]
 apply Array.ext_getElem?
 intro i
 by_cases hi:i<n
 ·rw [tabV_get n _ i hi]
  by_cases e:i=j
  ·subst e
   simp [tabV_size,hi]
  ·simp [e,tabV_get n f i hi,Array.getElem?_set,Ne.symm e]
 ·rw [Array.getElem?_eq_none (by simp [tabV_size];omega),Array.getElem?_eq_none (by simp [tabV_size];omega)]
end Go.Proofs.YtbljmfcifljkaaaGreatDoor
/-
  strings.NewReplacer. Own work.
-/
namespace Go.Proofs.YtbljmfcifljkaaaGreatDoor
open Go.RowKit
set_option maxRecDepth 100000
set_option maxHeartbeats 4000000
theorem addr_add (g o j:Nat):(⟨g,o,none⟩:Addr).add j=⟨g,o+j,none⟩:=by
 unfold Addr.add
 split <;> simp_all
structure RpNew (w:World) (b:Nat) (v:Value) (xs:List ByteArray):Prop where
 c0:w.cell? ⟨b,0,none⟩=some (.int .u32 0)
 c1:w.cell? ⟨b,1,none⟩=some (.int .i32 0)
 c3:w.cell? ⟨b,3,none⟩=some .nilIface
 c4:w.cell? ⟨b,4,none⟩=some v
 fz:∀ j,w.frozen? ⟨b,j,none⟩=false
 on:OnAt w v xs
end Go.Proofs.YtbljmfcifljkaaaGreatDoor
/-
  strings.Replacer: the table of bytes is made. Own work.
-/
namespace Go.Proofs.YtbljmfcifljkaaaGreatDoor
open Go.RowKit
set_option maxRecDepth 100000
set_option maxHeartbeats 4000000
theorem TabAt.congr {w:World} {tb:Nat} {t:TypeId} {n:Nat} {f g:Nat → Value} (h:TabAt w tb t n f) (hf:∀ j,j<n → f j=g j):TabAt w tb t n g:=by
 unfold TabAt at *
 rw [h]
 simp only [Option.some.injEq,Obj.cells.injEq,and_true]
 apply Array.ext_getElem?
 intro i
 by_cases hi:i<n
 ·rw [tabV_get n f i hi,tabV_get n g i hi,hf i hi]
 ·rw [Array.getElem?_eq_none (by simp [tabV_size];omega),Array.getElem?_eq_none (by simp [tabV_size];omega)]
end Go.Proofs.YtbljmfcifljkaaaGreatDoor
/-
  Texts for bytes: lengths, counted two ways. Plain. Own work.
-/
namespace Go.Proofs.YtbljmfcifljkaaaGreatDoor
end Go.Proofs.YtbljmfcifljkaaaGreatDoor
