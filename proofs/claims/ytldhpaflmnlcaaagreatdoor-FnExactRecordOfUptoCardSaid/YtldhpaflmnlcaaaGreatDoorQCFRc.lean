/-
  The closed facts of FnExactRecordOf's row, one theorem each. By a program of my own (card.py).
-/
import Derived.Test.YtldhpaflmnlcaaaGreatDoorQZ
set_option linter.all false
namespace Go.Proofs.YtldhpaflmnlcaaaGreatDoor.cardRc
open Go.ChangeShapes Go.WideShapes Go.ChangeAt Go.RowKit
theorem j0 : (Rows.fnExactRecordOfUptoRow.wf (OpenSpec.ofChange (Rows.OpenSpec.upto Rows.fnExactRecordOfSpec).bare)) = true := by kernel_rfl
theorem j3 : (Tryz.f9.params.all (Tryz.prog.readableRec ·)) = true := by kernel_rfl
theorem j4 : (namedTie Tryz.prog Rows.fnExactRecordOfUptoRow.named (Rows.OpenSpec.upto Rows.fnExactRecordOfSpec).bare.vars) = true := by kernel_rfl
theorem j5 : ((Rows.fnExactRecordOfUptoRow.stops == [])) = true := by kernel_rfl
theorem j7 : ((Rows.fnExactRecordOfUptoRow.knobs == [])) = true := by kernel_rfl
theorem j9 : ((Rows.fnExactRecordOfUptoRow.inPlace == Tryz.prog.inPlace 9)) = true := by kernel_rfl
theorem j10 : ((Rows.fnExactRecordOfUptoRow.unfollowed == Tryz.prog.unfollowed 9)) = true := by kernel_rfl
theorem j11 : ((Rows.fnExactRecordOfUptoRow.recurses == Tryz.prog.recurses 9)) = true := by kernel_rfl
theorem j12 : ((Rows.fnExactRecordOfUptoRow.named == Tryz.prog.varsNamed 9)) = true := by kernel_rfl
theorem j13 : ((Rows.fnExactRecordOfUptoRow.maps == (Tryz.f9.params.toList ++ (Rows.OpenSpec.upto Rows.fnExactRecordOfSpec).bare.plain.varTypes Tryz.prog).any (Tryz.prog.mapsRec ·))) = true := by kernel_rfl
theorem j14 : ((Rows.fnExactRecordOfUptoRow.ifaces == (Tryz.f9.params.toList ++ (Rows.OpenSpec.upto Rows.fnExactRecordOfSpec).bare.plain.varTypes Tryz.prog).any (Tryz.prog.ifacesRec ·))) = true := by kernel_rfl
theorem j15 : ((Rows.fnExactRecordOfUptoRow.mapsOut == Tryz.prog.mapsAmong Tryz.f9.resultTypes.toList)) = true := by kernel_rfl
theorem j16 : ((Rows.fnExactRecordOfUptoRow.loops == (Tryz.f9.params.toList ++ (Rows.OpenSpec.upto Rows.fnExactRecordOfSpec).bare.plain.varTypes Tryz.prog).any (Tryz.prog.loopsFrom ·))) = true := by kernel_rfl
theorem j17 : ((Rows.fnExactRecordOfUptoRow.wideKeys == (Tryz.f9.params.toList ++ (Rows.OpenSpec.upto Rows.fnExactRecordOfSpec).bare.plain.varTypes Tryz.prog ++ Tryz.f9.resultTypes.toList).any (Tryz.prog.wideKeysFrom ·))) = true := by kernel_rfl
theorem j18 : ((Rows.OpenSpec.upto Rows.fnExactRecordOfSpec).bare.vars.all (Tryz.prog.varReadable ·)) = true := by kernel_rfl
theorem j19 : (Tryz.f9.resultTypes.all (fun t => Tryz.prog.readableRec t && decide (t < Tryz.prog.types.size))) = true := by kernel_rfl
theorem j20 : ((Rows.fnExactRecordOfUptoRow.ifacesOut == Tryz.f9.resultTypes.toList.any (Tryz.prog.ifacesRec ·))) = true := by kernel_rfl
theorem j21 : ((Rows.fnExactRecordOfUptoRow.loopsOut == Tryz.f9.resultTypes.toList.any (Tryz.prog.loopsFrom ·))) = true := by kernel_rfl
theorem j22 : ((Rows.fnExactRecordOfUptoRow.plainKeys == Tryz.prog.plainKeys)) = true := by kernel_rfl
theorem j23 : (Rows.fnExactRecordOfUptoRow.shortTexts.isNone) = true := by kernel_rfl
theorem j26 : ((Rows.fnExactRecordOfUptoRow.lifted == Tryz.prog.liftsFinal)) = true := by kernel_rfl
theorem j27 : ((Tryz.prog.make == some Rows.fnExactRecordOfUptoRow.make)) = true := by kernel_rfl
theorem j28 : ((Rows.fnExactRecordOfUptoRow.kinds == (if Rows.fnExactRecordOfUptoRow.domain.isEmpty then [] else Tryz.f9.params.toList.map fun t => match Tryz.prog.underlying t with | some (.int k) => some k | _ => none))) = true := by kernel_rfl
theorem j29 : ((Rows.fnExactRecordOfUptoRow.pinned == Rows.fnExactRecordOfUptoRow.pinnedBy)) = true := by kernel_rfl
theorem j30 : ((Rows.fnExactRecordOfUptoRow.veiled == (Tryz.f9.params.toList ++ (Rows.OpenSpec.upto Rows.fnExactRecordOfSpec).bare.plain.varTypes Tryz.prog ++ Tryz.f9.resultTypes.toList).any (Tryz.prog.veiledRec ·))) = true := by kernel_rfl
theorem j31 : (Rows.fnExactRecordOfUptoRow.veiledFits Tryz.prog Tryz.f9.params.toList (Tryz.f9.params.toList ++ (Rows.OpenSpec.upto Rows.fnExactRecordOfSpec).bare.plain.varTypes Tryz.prog ++ Tryz.f9.resultTypes.toList)) = true := by kernel_rfl
theorem inst : Tryz.f9.isInstance Tryz.prog Rows.fnExactRecordOfUptoRow.origin Rows.fnExactRecordOfUptoRow.targs := of_decide_eq_true (by kernel_rfl)
theorem wrap : Tryz.f9.isWrapper Tryz.prog Rows.fnExactRecordOfUptoRow.wrapper Rows.fnExactRecordOfUptoRow.mainSum := by unfold Func.isWrapper; first | (rw [if_pos (by decide +kernel)]; kernel_rfl) | (rw [if_neg (by decide +kernel)]; exact ⟨rfl, rfl⟩)
theorem wfText : Rows.fnExactRecordOfUptoRow.wfByText (Rows.OpenSpec.upto Rows.fnExactRecordOfSpec) = true := by kernel_rfl
theorem goes : false = Rows.fnExactRecordOfUptoRow.goesBy Tryz.prog := by kernel_rfl
theorem noInit : Tryz.prog.inits.idxOf? 9 = none := by kernel_rfl
theorem p1 : Tryz.prog.funcNamed "loop.example/g01073/laws.FnExactRecordOf" = some 9 := by kernel_rfl
theorem q0 : Tryz.prog.wantsStandIn 22 = false := by kernel_rfl
theorem q1 : Tryz.prog.wantsStandIn 49 = false := by kernel_rfl
end Go.Proofs.YtldhpaflmnlcaaaGreatDoor.cardRc
