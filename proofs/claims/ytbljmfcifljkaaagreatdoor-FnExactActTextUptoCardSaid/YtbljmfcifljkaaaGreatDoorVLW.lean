/-
  Libraries read from their texts. No program in sight. Own work.
-/
import Derived.Test.YtbljmfcifljkaaaGreatDoorVAA
import Derived.Lib.IndexMore
import Derived.Test.YtbljmfcifljkaaaGreatDoorVT
set_option linter.all false
set_option maxRecDepth 100000
set_option maxHeartbeats 8000000
namespace Go.Proofs.YtbljmfcifljkaaaGreatDoor
open Go.RowKit
def splitB (b:UInt8):List UInt8 → List UInt8 → List (List UInt8)
 | acc,[]=>[acc]
 | acc,c :: r=>if c=b then acc :: splitB b [] r else splitB b (acc ++ [c]) r
def bytesOf (l:List UInt8):ByteArray:=⟨l.toArray⟩
end Go.Proofs.YtbljmfcifljkaaaGreatDoor
/-
  Entries read from their texts. No program in sight. Own work.
-/
namespace Go.Proofs.YtbljmfcifljkaaaGreatDoor
open Go.RowKit
theorem good_names {L:List Df} (h:good L=true):∀ d ∈ L,nameB d.name=true:=by
 have go:∀ (A P:List Df),goodGo P A=true → ∀ d ∈ A,nameB d.name=true:=by
  intro A
  induction A with
  | nil=>intro P _ d hd;cases hd
  | cons a A ih =>
   intro P hp d hd
   simp only [goodGo,Bool.and_eq_true] at hp
   rcases List.mem_cons.1 hd with rfl|hd
   ·have:=hp.1;simp only [goodAt,Bool.and_eq_true] at this;exact this.1.2
   ·exact ih _ hp.2 d hd
 simp only [good,Bool.and_eq_true] at h
 exact go L [] h.2
def e0:En:=⟨0,⟨#[]⟩,⟨#[]⟩,[]⟩
end Go.Proofs.YtbljmfcifljkaaaGreatDoor
