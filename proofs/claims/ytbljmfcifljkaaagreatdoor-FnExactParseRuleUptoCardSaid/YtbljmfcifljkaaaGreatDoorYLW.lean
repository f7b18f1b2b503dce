/-
  Libraries read from their texts. No program in sight. Own work.
-/
import Derived.Test.YtbljmfcifljkaaaGreatDoorYAA
import Derived.Lib.IndexMore
import Derived.Test.YtbljmfcifljkaaaGreatDoorYT
set_option linter.all false
set_option maxRecDepth 100000
set_option maxHeartbeats 8000000
namespace Go.Proofs.YtbljmfcifljkaaaGreatDoor
open Go.RowKit
end Go.Proofs.YtbljmfcifljkaaaGreatDoor
/-
  Entries read from their texts. No program in sight. Own work.
-/
namespace Go.Proofs.YtbljmfcifljkaaaGreatDoor
open Go.RowKit
def e0:En:=⟨0,⟨#[]⟩,⟨#[]⟩,[]⟩
end Go.Proofs.YtbljmfcifljkaaaGreatDoor
