/-
  A world for AxiomsOf's witness: as LaidW's, with the table of the smallest primes laid too. Own work.
-/
import Derived.Test.YtbljmfcifljkaaaGreatDoorRows
import Derived.WalkKit
import Derived.ProofKit
import Derived.Lib.LaidIn
import Derived.KernelRfl
set_option linter.all false
set_option maxRecDepth 100000
set_option maxHeartbeats 8000000
namespace Go.Proofs.YtbljmfcifljkaaaGreatDoor
open Go.ChangeShapes Go.WideShapes Go.ChangeAt Go.RowKit
def tab32:List Int:=[0,1,28,2,29,14,24,3,30,22,20,15,25,17,4,8,31,27,13,23,21,19,16,7,26,12,18,6,11,5,10,9]
def tab64:List Int:=[0,1,56,2,57,49,28,3,61,58,42,50,38,29,17,4,62,47,59,36,45,43,51,22,53,39,33,30,24,18,12,5,63,55,48,27,60,41,37,16,46,35,44,21,52,32,23,11,54,26,40,15,34,20,31,10,25,14,19,9,13,8,7,6]
def tabPow:List Int:=[1,10,100,1000,10000,100000,1000000,10000000,100000000,1000000000,10000000000,100000000000,1000000000000,10000000000000,100000000000000,1000000000000000,10000000000000000,100000000000000000,1000000000000000000,10000000000000000000]
def txtRange:ByteArray:=⟨#[118,97,108,117,101,32,111,117,116,32,111,102,32,114,97,110,103,101]⟩
def txtSyntax:ByteArray:=⟨#[105,110,118,97,108,105,100,32,115,121,110,116,97,120]⟩
noncomputable def laidWorld (os:Os):World :=
 let N:=(World.settled Tryz.prog os).heap.size
 let w0:=World.holding Tryz.prog os ⟨#[.cells #[.string txtRange] 390,.cells #[.string txtSyntax] 390],#[],[]⟩
 let put (h:Array Obj) (g:Nat) (cs:Array Value):Array Obj:=h.modify g fun
  | .cells _ t frozen=>.cells cs t frozen
  | o=>o
 let h1:=put w0.heap 7 (tab32.map fun z=>Value.int .u8 z).toArray
 let h2:=put h1 8 (tab64.map fun z=>Value.int .u8 z).toArray
 let h3:=put h2 3 (tabPow.map fun z=>Value.int .u64 z).toArray
 let h4:=put h3 2 #[.iface 388 (.pointer (some ⟨N,0,none⟩))]
 let h5:=put h4 1 #[.iface 388 (.pointer (some ⟨N+1,0,none⟩))]
 let h6:=put h5 0 #[.int .i64 2,.int .i64 3,.int .i64 5,.int .i64 7]
 { w0 with heap:=h6 }
theorem laid_met (os:Os) (args:Array Value):laidMet Tryz.prog Rows.fnExactAxiomsOfUptoRow.laid ((laidWorld os).forCall (fun _ _=>0) ⟨#[],args,[]⟩).memory :=
 laidMet_of_run' 8 (by kernel_rfl) (by kernel_rfl)
end Go.Proofs.YtbljmfcifljkaaaGreatDoor
