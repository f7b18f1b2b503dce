/-
  The program's parseTerm (PtI's first half, for a seat without ParseTerm). Own work.
-/
import Derived.Test.YtbljmfcifljkaaaGreatDoorYCC
import Derived.Test.YtbljmfcifljkaaaGreatDoorYC
set_option linter.all false
set_option maxRecDepth 100000
set_option maxHeartbeats 8000000
namespace Go.Proofs.YtbljmfcifljkaaaGreatDoor
open Go.RowKit
end Go.Proofs.YtbljmfcifljkaaaGreatDoor
