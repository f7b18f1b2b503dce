/-
  DERIVED. GIVEN WITH THE SEED: THE CARDS: each row of YtldhpaflmnlcaaaGreatDoorRows.lean that lists a variable, with what it lists TIED to the program's text (the seventh form; the later family's looks); each row that meets fmt, with fmt's text TOLD by the authors' own Lean function (tested against real Go, not proved from fmt's source: count such statements apart). THE CARD IS WHAT COUNTS. Prove the row's statement (the work); the ties are given (YtldhpaflmnlcaaaGreatDoorTie.lean); close each card by the builder's one call (the guide's Derived/Test/ToyasCard.lean, 'card_holds'). Laid BY PROGRAM, IN A SANDBOX (cutbox-door.mjs). By AI agents, Wed Nov 11 2026. No macro, syntax, notation, axiom, sorry.
-/
import Derived.Test.YtldhpaflmnlcaaaGreatDoorRows
import GoSem.ClaimSeven
namespace Go.Proofs.YtldhpaflmnlcaaaGreatDoor
namespace Rows

/-- THE TIED CARD OF 'laws.FnExactParseDef'. -/
def fnExactParseDefCard : Claim7 := { stood := { row := fnExactParseDefRow, standIns := [], harness := (true, "9c6aef279a938874409ef860413a6fbceb3ec703c29e2196a27974fd9f5a488b"), looks := true }, kinds := [], alts := [], laidByText := true, laidKinds := [.data, .data, .data, .sentinel, .sentinel], laidTests := true, laidLooks := .later }
def FnExactParseDefCardSaid : Prop := Claim7.holds Tryz.pinned (.plain (OpenSpec.ofChange fnExactParseDefSpec)) fnExactParseDefCard

/-- THE TIED CARD OF 'laws.FnExactParseLibrary'. -/
def fnExactParseLibraryCard : Claim7 := { stood := { row := fnExactParseLibraryRow, standIns := [], harness := (true, "9c6aef279a938874409ef860413a6fbceb3ec703c29e2196a27974fd9f5a488b"), looks := true }, kinds := [], alts := [], laidByText := true, laidKinds := [.data, .data, .data, .sentinel, .sentinel], laidTests := true, laidLooks := .later }
def FnExactParseLibraryCardSaid : Prop := Claim7.holds Tryz.pinned (.plain (OpenSpec.ofChange fnExactParseLibrarySpec)) fnExactParseLibraryCard

/-- THE TIED CARD OF 'laws.FnExactParseTerm'. -/
def fnExactParseTermCard : Claim7 := { stood := { row := fnExactParseTermRow, standIns := [], harness := (true, "9c6aef279a938874409ef860413a6fbceb3ec703c29e2196a27974fd9f5a488b"), looks := true }, kinds := [], alts := [], laidByText := true, laidKinds := [.data, .data, .data, .handle, .sentinel, .sentinel, .sentinel], laidTests := true, laidLooks := .later }
def FnExactParseTermCardSaid : Prop := Claim7.holds Tryz.pinned (.plain (OpenSpec.ofChange fnExactParseTermSpec)) fnExactParseTermCard

/-- THE TIED CARD OF 'laws.FnExactEntryText'. -/
def fnExactEntryTextCard : Claim7 := { stood := { row := fnExactEntryTextRow, standIns := [], harness := (true, "9c6aef279a938874409ef860413a6fbceb3ec703c29e2196a27974fd9f5a488b"), looks := true }, kinds := [], alts := [], laidByText := true, laidKinds := [.data, .data, .data, .sentinel, .sentinel], laidTests := true, laidLooks := .later }
def FnExactEntryTextCardSaid : Prop := Claim7.holds Tryz.pinned (.plain (OpenSpec.ofChange fnExactEntryTextSpec)) fnExactEntryTextCard

/-- THE TIED CARD OF 'laws.FnExactApplyEntry'. -/
def fnExactApplyEntryCard : Claim7 := { stood := { row := fnExactApplyEntryRow, standIns := [], harness := (true, "9c6aef279a938874409ef860413a6fbceb3ec703c29e2196a27974fd9f5a488b"), looks := true }, kinds := [], alts := [], laidByText := true, laidKinds := [.data, .data, .data, .sentinel, .sentinel], laidTests := true, laidLooks := .later }
def FnExactApplyEntryCardSaid : Prop := Claim7.holds Tryz.pinned (.plain (OpenSpec.ofChange fnExactApplyEntrySpec)) fnExactApplyEntryCard

/-- THE TIED CARD OF 'laws.FnExactJournalOf'. -/
def fnExactJournalOfCard : Claim7 := { stood := { row := fnExactJournalOfRow, standIns := [], harness := (true, "9c6aef279a938874409ef860413a6fbceb3ec703c29e2196a27974fd9f5a488b"), looks := true }, kinds := [], alts := [], laidByText := true, laidKinds := [.data, .data, .data, .sentinel, .sentinel], laidTests := true, laidLooks := .later }
def FnExactJournalOfCardSaid : Prop := Claim7.holds Tryz.pinned (.plain (OpenSpec.ofChange fnExactJournalOfSpec)) fnExactJournalOfCard

/-- THE TIED CARD OF 'laws.FnExactRecordOf'. -/
def fnExactRecordOfCard : Claim7 := { stood := { row := fnExactRecordOfRow, standIns := [], harness := (true, "9c6aef279a938874409ef860413a6fbceb3ec703c29e2196a27974fd9f5a488b"), looks := true }, kinds := [], alts := [], laidByText := true, laidKinds := [.data, .data, .data, .sentinel, .sentinel], laidTests := true, laidLooks := .later }
def FnExactRecordOfCardSaid : Prop := Claim7.holds Tryz.pinned (.plain (OpenSpec.ofChange fnExactRecordOfSpec)) fnExactRecordOfCard

/-- THE TIED CARD OF 'laws.FnExactParseEntry'. -/
def fnExactParseEntryCard : Claim7 := { stood := { row := fnExactParseEntryRow, standIns := [], harness := (true, "9c6aef279a938874409ef860413a6fbceb3ec703c29e2196a27974fd9f5a488b"), looks := true }, kinds := [], alts := [], laidByText := true, laidKinds := [.data, .data, .data, .sentinel, .sentinel], laidTests := true, laidLooks := .later }
def FnExactParseEntryCardSaid : Prop := Claim7.holds Tryz.pinned (.plain (OpenSpec.ofChange fnExactParseEntrySpec)) fnExactParseEntryCard

/-- THE TIED CARD OF 'laws.FnExactCountAcknowledged'. -/
def fnExactCountAcknowledgedCard : Claim7 := { stood := { row := fnExactCountAcknowledgedRow, standIns := [], harness := (true, "9c6aef279a938874409ef860413a6fbceb3ec703c29e2196a27974fd9f5a488b"), looks := true }, kinds := [], alts := [], laidByText := true, laidKinds := [.data, .data, .data, .sentinel, .sentinel], laidTests := true, laidLooks := .later }
def FnExactCountAcknowledgedCardSaid : Prop := Claim7.holds Tryz.pinned (.plain (OpenSpec.ofChange fnExactCountAcknowledgedSpec)) fnExactCountAcknowledgedCard

/-- THE TIED CARD OF 'laws.FnExactCompactJournal'. -/
def fnExactCompactJournalCard : Claim7 := { stood := { row := fnExactCompactJournalRow, standIns := [], harness := (true, "9c6aef279a938874409ef860413a6fbceb3ec703c29e2196a27974fd9f5a488b"), looks := true }, kinds := [], alts := [], laidByText := true, laidKinds := [.data, .data, .data, .sentinel, .sentinel], laidTests := true, laidLooks := .later }
def FnExactCompactJournalCardSaid : Prop := Claim7.holds Tryz.pinned (.plain (OpenSpec.ofChange fnExactCompactJournalSpec)) fnExactCompactJournalCard

/-- THE TIED CARD OF 'laws.FnExactRecoverLibrary'. -/
def fnExactRecoverLibraryCard : Claim7 := { stood := { row := fnExactRecoverLibraryRow, standIns := [], harness := (true, "9c6aef279a938874409ef860413a6fbceb3ec703c29e2196a27974fd9f5a488b"), looks := true }, kinds := [], alts := [], laidByText := true, laidKinds := [.data, .data, .data, .sentinel, .sentinel], laidTests := true, laidLooks := .later }
def FnExactRecoverLibraryCardSaid : Prop := Claim7.holds Tryz.pinned (.plain (OpenSpec.ofChange fnExactRecoverLibrarySpec)) fnExactRecoverLibraryCard

/-- THE TIED CARD OF 'laws.FnExactRecoverDisk'. -/
def fnExactRecoverDiskCard : Claim7 := { stood := { row := fnExactRecoverDiskRow, standIns := [], harness := (true, "9c6aef279a938874409ef860413a6fbceb3ec703c29e2196a27974fd9f5a488b"), looks := true }, kinds := [], alts := [], laidByText := true, laidKinds := [.data, .data, .data, .sentinel, .sentinel], laidTests := true, laidLooks := .later }
def FnExactRecoverDiskCardSaid : Prop := Claim7.holds Tryz.pinned (.plain (OpenSpec.ofChange fnExactRecoverDiskSpec)) fnExactRecoverDiskCard

/-- THE TIED CARD OF 'laws.FnExactWriteEntry'. -/
def fnExactWriteEntryCard : Claim7 := { stood := { row := fnExactWriteEntryRow, standIns := [], harness := (true, "9c6aef279a938874409ef860413a6fbceb3ec703c29e2196a27974fd9f5a488b"), looks := true }, kinds := [], alts := [], laidByText := true, laidKinds := [.data, .data, .data, .sentinel, .sentinel], laidTests := true, laidLooks := .later }
def FnExactWriteEntryCardSaid : Prop := Claim7.holds Tryz.pinned (.plain (OpenSpec.ofChange fnExactWriteEntrySpec)) fnExactWriteEntryCard

/-- THE SECOND FORM's CARD OF 'laws.FnExactParseDef'. -/
def fnExactParseDefUptoCard : Claim7 := { stood := { row := fnExactParseDefUptoRow, standIns := [], harness := (true, "9c6aef279a938874409ef860413a6fbceb3ec703c29e2196a27974fd9f5a488b"), looks := true }, kinds := [], alts := [], laidByText := true, laidKinds := [.data, .data, .data, .sentinel, .sentinel], laidTests := true, laidLooks := .later }
def FnExactParseDefUptoCardSaid : Prop := Claim7.holds Tryz.pinned (.plain (OpenSpec.upto fnExactParseDefSpec)) fnExactParseDefUptoCard

/-- THE SECOND FORM's CARD OF 'laws.FnExactParseLibrary'. -/
def fnExactParseLibraryUptoCard : Claim7 := { stood := { row := fnExactParseLibraryUptoRow, standIns := [], harness := (true, "9c6aef279a938874409ef860413a6fbceb3ec703c29e2196a27974fd9f5a488b"), looks := true }, kinds := [], alts := [], laidByText := true, laidKinds := [.data, .data, .data, .sentinel, .sentinel], laidTests := true, laidLooks := .later }
def FnExactParseLibraryUptoCardSaid : Prop := Claim7.holds Tryz.pinned (.plain (OpenSpec.upto fnExactParseLibrarySpec)) fnExactParseLibraryUptoCard

/-- THE SECOND FORM's CARD OF 'laws.FnExactParseTerm'. -/
def fnExactParseTermUptoCard : Claim7 := { stood := { row := fnExactParseTermUptoRow, standIns := [], harness := (true, "9c6aef279a938874409ef860413a6fbceb3ec703c29e2196a27974fd9f5a488b"), looks := true }, kinds := [], alts := [], laidByText := true, laidKinds := [.data, .data, .data, .handle, .sentinel, .sentinel, .sentinel], laidTests := true, laidLooks := .later }
def FnExactParseTermUptoCardSaid : Prop := Claim7.holds Tryz.pinned (.plain (OpenSpec.upto fnExactParseTermSpec)) fnExactParseTermUptoCard

/-- THE SECOND FORM's CARD OF 'laws.FnExactEntryText'. -/
def fnExactEntryTextUptoCard : Claim7 := { stood := { row := fnExactEntryTextUptoRow, standIns := [], harness := (true, "9c6aef279a938874409ef860413a6fbceb3ec703c29e2196a27974fd9f5a488b"), looks := true }, kinds := [], alts := [], laidByText := true, laidKinds := [.data, .data, .data, .sentinel, .sentinel], laidTests := true, laidLooks := .later }
def FnExactEntryTextUptoCardSaid : Prop := Claim7.holds Tryz.pinned (.plain (OpenSpec.upto fnExactEntryTextSpec)) fnExactEntryTextUptoCard

/-- THE SECOND FORM's CARD OF 'laws.FnExactApplyEntry'. -/
def fnExactApplyEntryUptoCard : Claim7 := { stood := { row := fnExactApplyEntryUptoRow, standIns := [], harness := (true, "9c6aef279a938874409ef860413a6fbceb3ec703c29e2196a27974fd9f5a488b"), looks := true }, kinds := [], alts := [], laidByText := true, laidKinds := [.data, .data, .data, .sentinel, .sentinel], laidTests := true, laidLooks := .later }
def FnExactApplyEntryUptoCardSaid : Prop := Claim7.holds Tryz.pinned (.plain (OpenSpec.upto fnExactApplyEntrySpec)) fnExactApplyEntryUptoCard

/-- THE SECOND FORM's CARD OF 'laws.FnExactJournalOf'. -/
def fnExactJournalOfUptoCard : Claim7 := { stood := { row := fnExactJournalOfUptoRow, standIns := [], harness := (true, "9c6aef279a938874409ef860413a6fbceb3ec703c29e2196a27974fd9f5a488b"), looks := true }, kinds := [], alts := [], laidByText := true, laidKinds := [.data, .data, .data, .sentinel, .sentinel], laidTests := true, laidLooks := .later }
def FnExactJournalOfUptoCardSaid : Prop := Claim7.holds Tryz.pinned (.plain (OpenSpec.upto fnExactJournalOfSpec)) fnExactJournalOfUptoCard

/-- THE SECOND FORM's CARD OF 'laws.FnExactRecordOf'. -/
def fnExactRecordOfUptoCard : Claim7 := { stood := { row := fnExactRecordOfUptoRow, standIns := [], harness := (true, "9c6aef279a938874409ef860413a6fbceb3ec703c29e2196a27974fd9f5a488b"), looks := true }, kinds := [], alts := [], laidByText := true, laidKinds := [.data, .data, .data, .sentinel, .sentinel], laidTests := true, laidLooks := .later }
def FnExactRecordOfUptoCardSaid : Prop := Claim7.holds Tryz.pinned (.plain (OpenSpec.upto fnExactRecordOfSpec)) fnExactRecordOfUptoCard

/-- THE SECOND FORM's CARD OF 'laws.FnExactParseEntry'. -/
def fnExactParseEntryUptoCard : Claim7 := { stood := { row := fnExactParseEntryUptoRow, standIns := [], harness := (true, "9c6aef279a938874409ef860413a6fbceb3ec703c29e2196a27974fd9f5a488b"), looks := true }, kinds := [], alts := [], laidByText := true, laidKinds := [.data, .data, .data, .sentinel, .sentinel], laidTests := true, laidLooks := .later }
def FnExactParseEntryUptoCardSaid : Prop := Claim7.holds Tryz.pinned (.plain (OpenSpec.upto fnExactParseEntrySpec)) fnExactParseEntryUptoCard

/-- THE SECOND FORM's CARD OF 'laws.FnExactCountAcknowledged'. -/
def fnExactCountAcknowledgedUptoCard : Claim7 := { stood := { row := fnExactCountAcknowledgedUptoRow, standIns := [], harness := (true, "9c6aef279a938874409ef860413a6fbceb3ec703c29e2196a27974fd9f5a488b"), looks := true }, kinds := [], alts := [], laidByText := true, laidKinds := [.data, .data, .data, .sentinel, .sentinel], laidTests := true, laidLooks := .later }
def FnExactCountAcknowledgedUptoCardSaid : Prop := Claim7.holds Tryz.pinned (.plain (OpenSpec.upto fnExactCountAcknowledgedSpec)) fnExactCountAcknowledgedUptoCard

/-- THE SECOND FORM's CARD OF 'laws.FnExactCompactJournal'. -/
def fnExactCompactJournalUptoCard : Claim7 := { stood := { row := fnExactCompactJournalUptoRow, standIns := [], harness := (true, "9c6aef279a938874409ef860413a6fbceb3ec703c29e2196a27974fd9f5a488b"), looks := true }, kinds := [], alts := [], laidByText := true, laidKinds := [.data, .data, .data, .sentinel, .sentinel], laidTests := true, laidLooks := .later }
def FnExactCompactJournalUptoCardSaid : Prop := Claim7.holds Tryz.pinned (.plain (OpenSpec.upto fnExactCompactJournalSpec)) fnExactCompactJournalUptoCard

/-- THE SECOND FORM's CARD OF 'laws.FnExactRecoverLibrary'. -/
def fnExactRecoverLibraryUptoCard : Claim7 := { stood := { row := fnExactRecoverLibraryUptoRow, standIns := [], harness := (true, "9c6aef279a938874409ef860413a6fbceb3ec703c29e2196a27974fd9f5a488b"), looks := true }, kinds := [], alts := [], laidByText := true, laidKinds := [.data, .data, .data, .sentinel, .sentinel], laidTests := true, laidLooks := .later }
def FnExactRecoverLibraryUptoCardSaid : Prop := Claim7.holds Tryz.pinned (.plain (OpenSpec.upto fnExactRecoverLibrarySpec)) fnExactRecoverLibraryUptoCard

/-- THE SECOND FORM's CARD OF 'laws.FnExactRecoverDisk'. -/
def fnExactRecoverDiskUptoCard : Claim7 := { stood := { row := fnExactRecoverDiskUptoRow, standIns := [], harness := (true, "9c6aef279a938874409ef860413a6fbceb3ec703c29e2196a27974fd9f5a488b"), looks := true }, kinds := [], alts := [], laidByText := true, laidKinds := [.data, .data, .data, .sentinel, .sentinel], laidTests := true, laidLooks := .later }
def FnExactRecoverDiskUptoCardSaid : Prop := Claim7.holds Tryz.pinned (.plain (OpenSpec.upto fnExactRecoverDiskSpec)) fnExactRecoverDiskUptoCard

/-- THE SECOND FORM's CARD OF 'laws.FnExactWriteEntry'. -/
def fnExactWriteEntryUptoCard : Claim7 := { stood := { row := fnExactWriteEntryUptoRow, standIns := [], harness := (true, "9c6aef279a938874409ef860413a6fbceb3ec703c29e2196a27974fd9f5a488b"), looks := true }, kinds := [], alts := [], laidByText := true, laidKinds := [.data, .data, .data, .sentinel, .sentinel], laidTests := true, laidLooks := .later }
def FnExactWriteEntryUptoCardSaid : Prop := Claim7.holds Tryz.pinned (.plain (OpenSpec.upto fnExactWriteEntrySpec)) fnExactWriteEntryUptoCard
end Rows
end Go.Proofs.YtldhpaflmnlcaaaGreatDoor
