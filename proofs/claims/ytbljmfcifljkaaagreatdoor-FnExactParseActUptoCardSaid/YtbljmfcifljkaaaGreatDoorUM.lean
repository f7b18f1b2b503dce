/-
  markText: the letter m and the digits of a number. Own work.
-/
import Derived.Test.YtbljmfcifljkaaaGreatDoorUA
import Derived.Test.YtbljmfcifljkaaaGreatDoorUC
import Derived.Laws.IdiomStrings
import Derived.Test.YtbljmfcifljkaaaGreatDoorUB
set_option linter.all false
set_option maxRecDepth 100000
set_option maxHeartbeats 8000000
namespace Go.Proofs.YtbljmfcifljkaaaGreatDoor
open Go.RowKit
end Go.Proofs.YtbljmfcifljkaaaGreatDoor
/-
  The marks: written into what a law holds, and read again. Own work.
-/
namespace Go.Proofs.YtbljmfcifljkaaaGreatDoor
open Go.RowKit
end Go.Proofs.YtbljmfcifljkaaaGreatDoor
/-
  The marks of terms, definitions, entries and libraries. Own work.
-/
namespace Go.Proofs.YtbljmfcifljkaaaGreatDoor
open Go.RowKit
end Go.Proofs.YtbljmfcifljkaaaGreatDoor
/-
  The marks are read again. Own work.
-/
namespace Go.Proofs.YtbljmfcifljkaaaGreatDoor
open Go.RowKit
end Go.Proofs.YtbljmfcifljkaaaGreatDoor
