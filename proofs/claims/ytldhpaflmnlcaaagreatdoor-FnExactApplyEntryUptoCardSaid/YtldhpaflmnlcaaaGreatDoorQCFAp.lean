/-
  The closed facts of FnExactApplyEntry's row, one theorem each. By a program of my own (card.py).
-/
import Derived.Test.YtldhpaflmnlcaaaGreatDoorQZ
set_option linter.all false
namespace Go.Proofs.YtldhpaflmnlcaaaGreatDoor.cardAp
open Go.ChangeShapes Go.WideShapes Go.ChangeAt Go.RowKit
theorem j0 : (Rows.fnExactApplyEntryUptoRow.wf (OpenSpec.ofChange (Rows.OpenSpec.upto Rows.fnExactApplyEntrySpec).bare)) = true := by kernel_rfl
theorem j3 : (Tryz.f7.params.all (Tryz.prog.readableRec ·)) = true := by kernel_rfl
theorem j4 : (namedTie Tryz.prog Rows.fnExactApplyEntryUptoRow.named (Rows.OpenSpec.upto Rows.fnExactApplyEntrySpec).bare.vars) = true := by kernel_rfl
theorem j5 : ((Rows.fnExactApplyEntryUptoRow.stops == [])) = true := by kernel_rfl
theorem j7 : ((Rows.fnExactApplyEntryUptoRow.knobs == [])) = true := by kernel_rfl
theorem j9 : ((Rows.fnExactApplyEntryUptoRow.inPlace == Tryz.prog.inPlace 7)) = true := by kernel_rfl
theorem j10 : ((Rows.fnExactApplyEntryUptoRow.unfollowed == Tryz.prog.unfollowed 7)) = true := by kernel_rfl
theorem j11 : ((Rows.fnExactApplyEntryUptoRow.recurses == Tryz.prog.recurses 7)) = true := by kernel_rfl
theorem j12 : ((Rows.fnExactApplyEntryUptoRow.named == Tryz.prog.varsNamed 7)) = true := by kernel_rfl
theorem j13 : ((Rows.fnExactApplyEntryUptoRow.maps == (Tryz.f7.params.toList ++ (Rows.OpenSpec.upto Rows.fnExactApplyEntrySpec).bare.plain.varTypes Tryz.prog).any (Tryz.prog.mapsRec ·))) = true := by kernel_rfl
theorem j14 : ((Rows.fnExactApplyEntryUptoRow.ifaces == (Tryz.f7.params.toList ++ (Rows.OpenSpec.upto Rows.fnExactApplyEntrySpec).bare.plain.varTypes Tryz.prog).any (Tryz.prog.ifacesRec ·))) = true := by kernel_rfl
theorem j15 : ((Rows.fnExactApplyEntryUptoRow.mapsOut == Tryz.prog.mapsAmong Tryz.f7.resultTypes.toList)) = true := by kernel_rfl
theorem j16 : ((Rows.fnExactApplyEntryUptoRow.loops == (Tryz.f7.params.toList ++ (Rows.OpenSpec.upto Rows.fnExactApplyEntrySpec).bare.plain.varTypes Tryz.prog).any (Tryz.prog.loopsFrom ·))) = true := by kernel_rfl
theorem j17 : ((Rows.fnExactApplyEntryUptoRow.wideKeys == (Tryz.f7.params.toList ++ (Rows.OpenSpec.upto Rows.fnExactApplyEntrySpec).bare.plain.varTypes Tryz.prog ++ Tryz.f7.resultTypes.toList).any (Tryz.prog.wideKeysFrom ·))) = true := by kernel_rfl
theorem j18 : ((Rows.OpenSpec.upto Rows.fnExactApplyEntrySpec).bare.vars.all (Tryz.prog.varReadable ·)) = true := by kernel_rfl
theorem j19 : (Tryz.f7.resultTypes.all (fun t => Tryz.prog.readableRec t && decide (t < Tryz.prog.types.size))) = true := by kernel_rfl
theorem j20 : ((Rows.fnExactApplyEntryUptoRow.ifacesOut == Tryz.f7.resultTypes.toList.any (Tryz.prog.ifacesRec ·))) = true := by kernel_rfl
theorem j21 : ((Rows.fnExactApplyEntryUptoRow.loopsOut == Tryz.f7.resultTypes.toList.any (Tryz.prog.loopsFrom ·))) = true := by kernel_rfl
theorem j22 : ((Rows.fnExactApplyEntryUptoRow.plainKeys == Tryz.prog.plainKeys)) = true := by kernel_rfl
theorem j23 : (Rows.fnExactApplyEntryUptoRow.shortTexts.isNone) = true := by kernel_rfl
theorem j26 : ((Rows.fnExactApplyEntryUptoRow.lifted == Tryz.prog.liftsFinal)) = true := by kernel_rfl
theorem j27 : ((Tryz.prog.make == some Rows.fnExactApplyEntryUptoRow.make)) = true := by kernel_rfl
theorem j28 : ((Rows.fnExactApplyEntryUptoRow.kinds == (if Rows.fnExactApplyEntryUptoRow.domain.isEmpty then [] else Tryz.f7.params.toList.map fun t => match Tryz.prog.underlying t with | some (.int k) => some k | _ => none))) = true := by kernel_rfl
theorem j29 : ((Rows.fnExactApplyEntryUptoRow.pinned == Rows.fnExactApplyEntryUptoRow.pinnedBy)) = true := by kernel_rfl
theorem j30 : ((Rows.fnExactApplyEntryUptoRow.veiled == (Tryz.f7.params.toList ++ (Rows.OpenSpec.upto Rows.fnExactApplyEntrySpec).bare.plain.varTypes Tryz.prog ++ Tryz.f7.resultTypes.toList).any (Tryz.prog.veiledRec ·))) = true := by kernel_rfl
theorem j31 : (Rows.fnExactApplyEntryUptoRow.veiledFits Tryz.prog Tryz.f7.params.toList (Tryz.f7.params.toList ++ (Rows.OpenSpec.upto Rows.fnExactApplyEntrySpec).bare.plain.varTypes Tryz.prog ++ Tryz.f7.resultTypes.toList)) = true := by kernel_rfl
theorem inst : Tryz.f7.isInstance Tryz.prog Rows.fnExactApplyEntryUptoRow.origin Rows.fnExactApplyEntryUptoRow.targs := of_decide_eq_true (by kernel_rfl)
theorem wrap : Tryz.f7.isWrapper Tryz.prog Rows.fnExactApplyEntryUptoRow.wrapper Rows.fnExactApplyEntryUptoRow.mainSum := by unfold Func.isWrapper; first | (rw [if_pos (by decide +kernel)]; kernel_rfl) | (rw [if_neg (by decide +kernel)]; exact ⟨rfl, rfl⟩)
theorem wfText : Rows.fnExactApplyEntryUptoRow.wfByText (Rows.OpenSpec.upto Rows.fnExactApplyEntrySpec) = true := by kernel_rfl
theorem goes : false = Rows.fnExactApplyEntryUptoRow.goesBy Tryz.prog := by kernel_rfl
theorem noInit : Tryz.prog.inits.idxOf? 7 = none := by kernel_rfl
theorem p1 : Tryz.prog.funcNamed "loop.example/g01073/laws.FnExactApplyEntry" = some 7 := by kernel_rfl
theorem q0 : Tryz.prog.wantsStandIn 22 = false := by kernel_rfl
theorem q1 : Tryz.prog.wantsStandIn 49 = false := by kernel_rfl
end Go.Proofs.YtldhpaflmnlcaaaGreatDoor.cardAp
