/-
  DERIVED. GIVEN WITH THE SEED: THE CARDS: each row of YtbljmfcifljkaaaGreatDoorRows.lean that lists a variable, with what it lists TIED to the program's text (the seventh form; the later family's looks); each row that meets fmt, with fmt's text TOLD by the authors' own Lean function (tested against real Go, not proved from fmt's source: count such statements apart). THE CARD IS WHAT COUNTS. Prove the row's statement (the work); the ties are given (YtbljmfcifljkaaaGreatDoorTie.lean); close each card by the builder's one call (the guide's Derived/Test/ToyasCard.lean, 'card_holds'). Laid BY PROGRAM, IN A SANDBOX (cutbox-door.mjs). By AI agents, Wed Nov 11 2026. No macro, syntax, notation, axiom, sorry.
-/
import Derived.Test.YtbljmfcifljkaaaGreatDoorRows
import GoSem.ClaimSeven
namespace Go.Proofs.YtbljmfcifljkaaaGreatDoor
namespace Rows

/-- THE TIED CARD OF 'laws.FnExactAxiomsOf'. -/
def fnExactAxiomsOfCard : Claim7 := { stood := { row := fnExactAxiomsOfRow, standIns := [], harness := (true, "1c0856d2490429b5c8caa99d1d74bb6271b8d61428d19658c33e4f05c66be6d4"), looks := true }, kinds := [], alts := [], laidByText := true, laidKinds := [.data, .data, .data, .sentinel, .sentinel, .data], laidTests := true, laidLooks := .later }
def FnExactAxiomsOfCardSaid : Prop := Claim7.holds Tryz.pinned (.plain (OpenSpec.ofChange fnExactAxiomsOfSpec)) fnExactAxiomsOfCard

/-- THE TIED CARD OF 'laws.FnExactParseRule'. -/
def fnExactParseRuleCard : Claim7 := { stood := { row := fnExactParseRuleRow, standIns := [], harness := (true, "1c0856d2490429b5c8caa99d1d74bb6271b8d61428d19658c33e4f05c66be6d4"), looks := true }, kinds := [], alts := [], laidByText := true, laidKinds := [.data, .data, .data, .sentinel, .sentinel], laidTests := true, laidLooks := .later }
def FnExactParseRuleCardSaid : Prop := Claim7.holds Tryz.pinned (.plain (OpenSpec.ofChange fnExactParseRuleSpec)) fnExactParseRuleCard

/-- THE TIED CARD OF 'laws.FnExactActText'. -/
def fnExactActTextCard : Claim7 := { stood := { row := fnExactActTextRow, standIns := [], harness := (true, "1c0856d2490429b5c8caa99d1d74bb6271b8d61428d19658c33e4f05c66be6d4"), looks := true }, kinds := [], alts := [], laidByText := true, laidKinds := [.data, .data, .data, .sentinel, .sentinel, .data], laidTests := true, laidLooks := .later }
def FnExactActTextCardSaid : Prop := Claim7.holds Tryz.pinned (.plain (OpenSpec.ofChange fnExactActTextSpec)) fnExactActTextCard

/-- THE TIED CARD OF 'laws.FnExactParseAct'. -/
def fnExactParseActCard : Claim7 := { stood := { row := fnExactParseActRow, standIns := [], harness := (true, "1c0856d2490429b5c8caa99d1d74bb6271b8d61428d19658c33e4f05c66be6d4"), looks := true }, kinds := [], alts := [], laidByText := true, laidKinds := [.data, .data, .data, .data, .sentinel, .sentinel, .data, .pinned], laidTests := true, laidLooks := .later }
def FnExactParseActCardSaid : Prop := Claim7.holds Tryz.pinned (.plain (OpenSpec.ofChange fnExactParseActSpec)) fnExactParseActCard

/-- THE TIED CARD OF 'laws.FnExactCompileGraph'. -/
def fnExactCompileGraphCard : Claim7 := { stood := { row := fnExactCompileGraphRow, standIns := [], harness := (true, "1c0856d2490429b5c8caa99d1d74bb6271b8d61428d19658c33e4f05c66be6d4"), looks := true }, kinds := [], alts := [], laidByText := true, laidKinds := [.data], laidTests := true, laidLooks := .later }
def FnExactCompileGraphCardSaid : Prop := Claim7.holds Tryz.pinned (.plain (OpenSpec.ofChange fnExactCompileGraphSpec)) fnExactCompileGraphCard

/-- THE SECOND FORM's CARD OF 'laws.FnExactAxiomsOf'. -/
def fnExactAxiomsOfUptoCard : Claim7 := { stood := { row := fnExactAxiomsOfUptoRow, standIns := [], harness := (true, "1c0856d2490429b5c8caa99d1d74bb6271b8d61428d19658c33e4f05c66be6d4"), looks := true }, kinds := [], alts := [], laidByText := true, laidKinds := [.data, .data, .data, .sentinel, .sentinel, .data], laidTests := true, laidLooks := .later }
def FnExactAxiomsOfUptoCardSaid : Prop := Claim7.holds Tryz.pinned (.plain (OpenSpec.upto fnExactAxiomsOfSpec)) fnExactAxiomsOfUptoCard

/-- THE SECOND FORM's CARD OF 'laws.FnExactParseRule'. -/
def fnExactParseRuleUptoCard : Claim7 := { stood := { row := fnExactParseRuleUptoRow, standIns := [], harness := (true, "1c0856d2490429b5c8caa99d1d74bb6271b8d61428d19658c33e4f05c66be6d4"), looks := true }, kinds := [], alts := [], laidByText := true, laidKinds := [.data, .data, .data, .sentinel, .sentinel], laidTests := true, laidLooks := .later }
def FnExactParseRuleUptoCardSaid : Prop := Claim7.holds Tryz.pinned (.plain (OpenSpec.upto fnExactParseRuleSpec)) fnExactParseRuleUptoCard

/-- THE SECOND FORM's CARD OF 'laws.FnExactActText'. -/
def fnExactActTextUptoCard : Claim7 := { stood := { row := fnExactActTextUptoRow, standIns := [], harness := (true, "1c0856d2490429b5c8caa99d1d74bb6271b8d61428d19658c33e4f05c66be6d4"), looks := true }, kinds := [], alts := [], laidByText := true, laidKinds := [.data, .data, .data, .sentinel, .sentinel, .data], laidTests := true, laidLooks := .later }
def FnExactActTextUptoCardSaid : Prop := Claim7.holds Tryz.pinned (.plain (OpenSpec.upto fnExactActTextSpec)) fnExactActTextUptoCard

/-- THE SECOND FORM's CARD OF 'laws.FnExactParseAct'. -/
def fnExactParseActUptoCard : Claim7 := { stood := { row := fnExactParseActUptoRow, standIns := [], harness := (true, "1c0856d2490429b5c8caa99d1d74bb6271b8d61428d19658c33e4f05c66be6d4"), looks := true }, kinds := [], alts := [], laidByText := true, laidKinds := [.data, .data, .data, .data, .sentinel, .sentinel, .data, .pinned], laidTests := true, laidLooks := .later }
def FnExactParseActUptoCardSaid : Prop := Claim7.holds Tryz.pinned (.plain (OpenSpec.upto fnExactParseActSpec)) fnExactParseActUptoCard

/-- THE SECOND FORM's CARD OF 'laws.FnExactCompileGraph'. -/
def fnExactCompileGraphUptoCard : Claim7 := { stood := { row := fnExactCompileGraphUptoRow, standIns := [], harness := (true, "1c0856d2490429b5c8caa99d1d74bb6271b8d61428d19658c33e4f05c66be6d4"), looks := true }, kinds := [], alts := [], laidByText := true, laidKinds := [.data], laidTests := true, laidLooks := .later }
def FnExactCompileGraphUptoCardSaid : Prop := Claim7.holds Tryz.pinned (.plain (OpenSpec.upto fnExactCompileGraphSpec)) fnExactCompileGraphUptoCard
end Rows
end Go.Proofs.YtbljmfcifljkaaaGreatDoor
