/-
  The closed facts of FnExactParseLibrary's row, one theorem each. By a program of my own (card.py).
-/
import Derived.Test.YtldhpaflmnlcaaaGreatDoorQZ
set_option linter.all false
namespace Go.Proofs.YtldhpaflmnlcaaaGreatDoor.cardPl
open Go.ChangeShapes Go.WideShapes Go.ChangeAt Go.RowKit
theorem j0 : (Rows.fnExactParseLibraryUptoRow.wf (OpenSpec.ofChange (Rows.OpenSpec.upto Rows.fnExactParseLibrarySpec).bare)) = true := by kernel_rfl
theorem j3 : (Tryz.f4.params.all (Tryz.prog.readableRec ·)) = true := by kernel_rfl
theorem j4 : (namedTie Tryz.prog Rows.fnExactParseLibraryUptoRow.named (Rows.OpenSpec.upto Rows.fnExactParseLibrarySpec).bare.vars) = true := by kernel_rfl
theorem j5 : ((Rows.fnExactParseLibraryUptoRow.stops == [])) = true := by kernel_rfl
theorem j7 : ((Rows.fnExactParseLibraryUptoRow.knobs == [])) = true := by kernel_rfl
theorem j9 : ((Rows.fnExactParseLibraryUptoRow.inPlace == Tryz.prog.inPlace 4)) = true := by kernel_rfl
theorem j10 : ((Rows.fnExactParseLibraryUptoRow.unfollowed == Tryz.prog.unfollowed 4)) = true := by kernel_rfl
theorem j11 : ((Rows.fnExactParseLibraryUptoRow.recurses == Tryz.prog.recurses 4)) = true := by kernel_rfl
theorem j12 : ((Rows.fnExactParseLibraryUptoRow.named == Tryz.prog.varsNamed 4)) = true := by kernel_rfl
theorem j13 : ((Rows.fnExactParseLibraryUptoRow.maps == (Tryz.f4.params.toList ++ (Rows.OpenSpec.upto Rows.fnExactParseLibrarySpec).bare.plain.varTypes Tryz.prog).any (Tryz.prog.mapsRec ·))) = true := by kernel_rfl
theorem j14 : ((Rows.fnExactParseLibraryUptoRow.ifaces == (Tryz.f4.params.toList ++ (Rows.OpenSpec.upto Rows.fnExactParseLibrarySpec).bare.plain.varTypes Tryz.prog).any (Tryz.prog.ifacesRec ·))) = true := by kernel_rfl
theorem j15 : ((Rows.fnExactParseLibraryUptoRow.mapsOut == Tryz.prog.mapsAmong Tryz.f4.resultTypes.toList)) = true := by kernel_rfl
theorem j16 : ((Rows.fnExactParseLibraryUptoRow.loops == (Tryz.f4.params.toList ++ (Rows.OpenSpec.upto Rows.fnExactParseLibrarySpec).bare.plain.varTypes Tryz.prog).any (Tryz.prog.loopsFrom ·))) = true := by kernel_rfl
theorem j17 : ((Rows.fnExactParseLibraryUptoRow.wideKeys == (Tryz.f4.params.toList ++ (Rows.OpenSpec.upto Rows.fnExactParseLibrarySpec).bare.plain.varTypes Tryz.prog ++ Tryz.f4.resultTypes.toList).any (Tryz.prog.wideKeysFrom ·))) = true := by kernel_rfl
theorem j18 : ((Rows.OpenSpec.upto Rows.fnExactParseLibrarySpec).bare.vars.all (Tryz.prog.varReadable ·)) = true := by kernel_rfl
theorem j19 : (Tryz.f4.resultTypes.all (fun t => Tryz.prog.readableRec t && decide (t < Tryz.prog.types.size))) = true := by kernel_rfl
theorem j20 : ((Rows.fnExactParseLibraryUptoRow.ifacesOut == Tryz.f4.resultTypes.toList.any (Tryz.prog.ifacesRec ·))) = true := by kernel_rfl
theorem j21 : ((Rows.fnExactParseLibraryUptoRow.loopsOut == Tryz.f4.resultTypes.toList.any (Tryz.prog.loopsFrom ·))) = true := by kernel_rfl
theorem j22 : ((Rows.fnExactParseLibraryUptoRow.plainKeys == Tryz.prog.plainKeys)) = true := by kernel_rfl
theorem j23 : (Rows.fnExactParseLibraryUptoRow.shortTexts.isNone) = true := by kernel_rfl
theorem j26 : ((Rows.fnExactParseLibraryUptoRow.lifted == Tryz.prog.liftsFinal)) = true := by kernel_rfl
theorem j27 : ((Tryz.prog.make == some Rows.fnExactParseLibraryUptoRow.make)) = true := by kernel_rfl
theorem j28 : ((Rows.fnExactParseLibraryUptoRow.kinds == (if Rows.fnExactParseLibraryUptoRow.domain.isEmpty then [] else Tryz.f4.params.toList.map fun t => match Tryz.prog.underlying t with | some (.int k) => some k | _ => none))) = true := by kernel_rfl
theorem j29 : ((Rows.fnExactParseLibraryUptoRow.pinned == Rows.fnExactParseLibraryUptoRow.pinnedBy)) = true := by kernel_rfl
theorem j30 : ((Rows.fnExactParseLibraryUptoRow.veiled == (Tryz.f4.params.toList ++ (Rows.OpenSpec.upto Rows.fnExactParseLibrarySpec).bare.plain.varTypes Tryz.prog ++ Tryz.f4.resultTypes.toList).any (Tryz.prog.veiledRec ·))) = true := by kernel_rfl
theorem j31 : (Rows.fnExactParseLibraryUptoRow.veiledFits Tryz.prog Tryz.f4.params.toList (Tryz.f4.params.toList ++ (Rows.OpenSpec.upto Rows.fnExactParseLibrarySpec).bare.plain.varTypes Tryz.prog ++ Tryz.f4.resultTypes.toList)) = true := by kernel_rfl
theorem inst : Tryz.f4.isInstance Tryz.prog Rows.fnExactParseLibraryUptoRow.origin Rows.fnExactParseLibraryUptoRow.targs := of_decide_eq_true (by kernel_rfl)
theorem wrap : Tryz.f4.isWrapper Tryz.prog Rows.fnExactParseLibraryUptoRow.wrapper Rows.fnExactParseLibraryUptoRow.mainSum := by unfold Func.isWrapper; first | (rw [if_pos (by decide +kernel)]; kernel_rfl) | (rw [if_neg (by decide +kernel)]; exact ⟨rfl, rfl⟩)
theorem wfText : Rows.fnExactParseLibraryUptoRow.wfByText (Rows.OpenSpec.upto Rows.fnExactParseLibrarySpec) = true := by kernel_rfl
theorem goes : false = Rows.fnExactParseLibraryUptoRow.goesBy Tryz.prog := by kernel_rfl
theorem noInit : Tryz.prog.inits.idxOf? 4 = none := by kernel_rfl
theorem p1 : Tryz.prog.funcNamed "loop.example/g01073/laws.FnExactParseLibrary" = some 4 := by kernel_rfl
theorem q0 : Tryz.prog.wantsStandIn 9 = false := by kernel_rfl
end Go.Proofs.YtldhpaflmnlcaaaGreatDoor.cardPl
