/-
  DERIVED. GIVEN WITH THE SEED: THE CARDS: each row of YtikgblkfmpecfaaGreatDoorRows.lean that lists a variable, with what it lists TIED to the program's text (the seventh form; the later family's looks); each row that meets fmt, with fmt's text TOLD by the authors' own Lean function (tested against real Go, not proved from fmt's source: count such statements apart). THE CARD IS WHAT COUNTS. Prove the row's statement (the work); the ties are given (YtikgblkfmpecfaaGreatDoorTie.lean); close each card by the builder's one call (the guide's Derived/Test/ToyasCard.lean, 'card_holds'). Laid BY PROGRAM, IN A SANDBOX (cutbox-door.mjs). By AI agents, Wed Nov 11 2026. No macro, syntax, notation, axiom, sorry.
-/
import Derived.Test.YtikgblkfmpecfaaGreatDoorRows
import GoSem.ClaimSeven
namespace Go.Proofs.YtikgblkfmpecfaaGreatDoor
namespace Rows

/-- THE TIED CARD OF 'laws.FnPrinted'. -/
def fnPrintedCard : Claim7 := { stood := { row := fnPrintedRow, standIns := [], harness := (true, "fadf67726f396843318b00d168f5cb64112141f427ae4031fd4ca19d6e6fa6d3"), looks := true }, kinds := [], alts := [], laidByText := true, laidKinds := [.data, .data, .data, .handle, .sentinel, .sentinel, .sentinel], laidTests := true, laidLooks := .later }
def FnPrintedCardSaid : Prop := Claim7.holds Tryz.pinned (.plain (OpenSpec.ofChange fnPrintedSpec)) fnPrintedCard

/-- THE TIED CARD OF 'laws.FnJournals'. -/
def fnJournalsCard : Claim7 := { stood := { row := fnJournalsRow, standIns := [], harness := (true, "fadf67726f396843318b00d168f5cb64112141f427ae4031fd4ca19d6e6fa6d3"), looks := true }, kinds := [], alts := [], laidByText := true, laidKinds := [.data, .data, .data, .sentinel, .sentinel], laidTests := true, laidLooks := .later }
def FnJournalsCardSaid : Prop := Claim7.holds Tryz.pinned (.plain (OpenSpec.ofChange fnJournalsSpec)) fnJournalsCard

/-- THE TIED CARD OF 'laws.FnCrashes'. -/
def fnCrashesCard : Claim7 := { stood := { row := fnCrashesRow, standIns := [], harness := (true, "fadf67726f396843318b00d168f5cb64112141f427ae4031fd4ca19d6e6fa6d3"), looks := true }, kinds := [], alts := [], laidByText := true, laidKinds := [.data, .data, .data, .sentinel, .sentinel], laidTests := true, laidLooks := .later }
def FnCrashesCardSaid : Prop := Claim7.holds Tryz.pinned (.plain (OpenSpec.ofChange fnCrashesSpec)) fnCrashesCard

/-- THE SECOND FORM's CARD OF 'laws.FnPrinted'. -/
def fnPrintedUptoCard : Claim7 := { stood := { row := fnPrintedUptoRow, standIns := [], harness := (true, "fadf67726f396843318b00d168f5cb64112141f427ae4031fd4ca19d6e6fa6d3"), looks := true }, kinds := [], alts := [], laidByText := true, laidKinds := [.data, .data, .data, .handle, .sentinel, .sentinel, .sentinel], laidTests := true, laidLooks := .later }
def FnPrintedUptoCardSaid : Prop := Claim7.holds Tryz.pinned (.plain (OpenSpec.upto fnPrintedSpec)) fnPrintedUptoCard

/-- THE SECOND FORM's CARD OF 'laws.FnJournals'. -/
def fnJournalsUptoCard : Claim7 := { stood := { row := fnJournalsUptoRow, standIns := [], harness := (true, "fadf67726f396843318b00d168f5cb64112141f427ae4031fd4ca19d6e6fa6d3"), looks := true }, kinds := [], alts := [], laidByText := true, laidKinds := [.data, .data, .data, .sentinel, .sentinel], laidTests := true, laidLooks := .later }
def FnJournalsUptoCardSaid : Prop := Claim7.holds Tryz.pinned (.plain (OpenSpec.upto fnJournalsSpec)) fnJournalsUptoCard

/-- THE SECOND FORM's CARD OF 'laws.FnCrashes'. -/
def fnCrashesUptoCard : Claim7 := { stood := { row := fnCrashesUptoRow, standIns := [], harness := (true, "fadf67726f396843318b00d168f5cb64112141f427ae4031fd4ca19d6e6fa6d3"), looks := true }, kinds := [], alts := [], laidByText := true, laidKinds := [.data, .data, .data, .sentinel, .sentinel], laidTests := true, laidLooks := .later }
def FnCrashesUptoCardSaid : Prop := Claim7.holds Tryz.pinned (.plain (OpenSpec.upto fnCrashesSpec)) fnCrashesUptoCard
end Rows
end Go.Proofs.YtikgblkfmpecfaaGreatDoor
