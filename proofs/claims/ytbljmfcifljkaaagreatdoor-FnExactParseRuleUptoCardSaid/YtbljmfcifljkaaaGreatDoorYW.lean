/-
  The walk of treeOf: the tree of nodes that are a term. Own work.
-/
import Derived.Test.YtbljmfcifljkaaaGreatDoorYT
import Derived.Test.YtbljmfcifljkaaaGreatDoorYE
import Derived.Test.YtbljmfcifljkaaaGreatDoorYB
set_option linter.all false
set_option maxRecDepth 100000
set_option maxHeartbeats 8000000
namespace Go.Proofs.YtbljmfcifljkaaaGreatDoor
open Go.RowKit
end Go.Proofs.YtbljmfcifljkaaaGreatDoor
