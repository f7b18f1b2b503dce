/-
  A world for ParseTerm's witness: as LaidW's, with the fault's sentinel and the handle of error laid too. Own work.
-/
import Derived.Test.YtldhpaflmnlcaaaGreatDoorQZ
import Derived.LaidHandle
set_option linter.all false
set_option maxRecDepth 100000
set_option maxHeartbeats 8000000
namespace Go.Proofs.YtldhpaflmnlcaaaGreatDoor
open Go.ChangeShapes Go.WideShapes Go.ChangeAt Go.RowKit
def txtFault:ByteArray:=⟨#[102,97,117,108,116,32,111,102,32,97,32,116,101,120,116]⟩
noncomputable def laidWorldT (os:Os):World :=
 let N:=(World.settled Tryz.prog os).heap.size
 let w0:=World.holding Tryz.prog os ⟨#[.cells #[.string txtRange] 299,.cells #[.string txtSyntax] 299,.cells #[.string txtFault] 299],#[],[]⟩
 let put (h:Array Obj) (g:Nat) (cs:Array Value):Array Obj:=h.modify g fun
  | .cells _ t frozen=>.cells cs t frozen
  | o=>o
 let h1:=put w0.heap 4 (tab32.map fun z=>Value.int .u8 z).toArray
 let h2:=put h1 5 (tab64.map fun z=>Value.int .u8 z).toArray
 let h3:=put h2 3 (tabPow.map fun z=>Value.int .u64 z).toArray
 let h4:=put h3 7 #[.iface 297 (.pointer (some ⟨N,0,none⟩))]
 let h5:=put h4 6 #[.iface 297 (.pointer (some ⟨N+1,0,none⟩))]
 let h6:=put h5 1 #[.iface 238 (.agg #[.pointer (some ⟨8,92,none⟩)])]
 let h7:=put h6 0 #[.iface 297 (.pointer (some ⟨N+2,0,none⟩))]
 { w0 with heap:=h7 }
theorem laid_metT (os:Os) (args:Array Value):laidMetH Tryz.prog Rows.fnExactParseTermUptoRow.laid ((laidWorldT os).forCall (fun _ _=>0) ⟨#[],args,[]⟩).memory :=
 laidMetH_of_parts (laidMet_of_run' 8 (by kernel_rfl) (by kernel_rfl)) (by kernel_rfl)
end Go.Proofs.YtldhpaflmnlcaaaGreatDoor
