/-
  Libraries read from their texts. No program in sight. Own work.
-/
import Derived.Test.YtbljmfcifljkaaaGreatDoorKAA
import Derived.Lib.IndexMore
set_option linter.all false
set_option maxRecDepth 100000
set_option maxHeartbeats 8000000
namespace Go.Proofs.YtbljmfcifljkaaaGreatDoor
open Go.RowKit
def bytesOf (l:List UInt8):ByteArray:=⟨l.toArray⟩
end Go.Proofs.YtbljmfcifljkaaaGreatDoor
