/-
  The closed facts of FnExactEntryText's row, one theorem each. By a program of my own (card.py).
-/
import Derived.Test.YtldhpaflmnlcaaaGreatDoorQZ
set_option linter.all false
namespace Go.Proofs.YtldhpaflmnlcaaaGreatDoor.cardEt
open Go.ChangeShapes Go.WideShapes Go.ChangeAt Go.RowKit
theorem j0 : (Rows.fnExactEntryTextUptoRow.wf (OpenSpec.ofChange (Rows.OpenSpec.upto Rows.fnExactEntryTextSpec).bare)) = true := by kernel_rfl
theorem j3 : (Tryz.f6.params.all (Tryz.prog.readableRec ·)) = true := by kernel_rfl
theorem j4 : (namedTie Tryz.prog Rows.fnExactEntryTextUptoRow.named (Rows.OpenSpec.upto Rows.fnExactEntryTextSpec).bare.vars) = true := by kernel_rfl
theorem j5 : ((Rows.fnExactEntryTextUptoRow.stops == [])) = true := by kernel_rfl
theorem j7 : ((Rows.fnExactEntryTextUptoRow.knobs == [])) = true := by kernel_rfl
theorem j9 : ((Rows.fnExactEntryTextUptoRow.inPlace == Tryz.prog.inPlace 6)) = true := by kernel_rfl
theorem j10 : ((Rows.fnExactEntryTextUptoRow.unfollowed == Tryz.prog.unfollowed 6)) = true := by kernel_rfl
theorem j11 : ((Rows.fnExactEntryTextUptoRow.recurses == Tryz.prog.recurses 6)) = true := by kernel_rfl
theorem j12 : ((Rows.fnExactEntryTextUptoRow.named == Tryz.prog.varsNamed 6)) = true := by kernel_rfl
theorem j13 : ((Rows.fnExactEntryTextUptoRow.maps == (Tryz.f6.params.toList ++ (Rows.OpenSpec.upto Rows.fnExactEntryTextSpec).bare.plain.varTypes Tryz.prog).any (Tryz.prog.mapsRec ·))) = true := by kernel_rfl
theorem j14 : ((Rows.fnExactEntryTextUptoRow.ifaces == (Tryz.f6.params.toList ++ (Rows.OpenSpec.upto Rows.fnExactEntryTextSpec).bare.plain.varTypes Tryz.prog).any (Tryz.prog.ifacesRec ·))) = true := by kernel_rfl
theorem j15 : ((Rows.fnExactEntryTextUptoRow.mapsOut == Tryz.prog.mapsAmong Tryz.f6.resultTypes.toList)) = true := by kernel_rfl
theorem j16 : ((Rows.fnExactEntryTextUptoRow.loops == (Tryz.f6.params.toList ++ (Rows.OpenSpec.upto Rows.fnExactEntryTextSpec).bare.plain.varTypes Tryz.prog).any (Tryz.prog.loopsFrom ·))) = true := by kernel_rfl
theorem j17 : ((Rows.fnExactEntryTextUptoRow.wideKeys == (Tryz.f6.params.toList ++ (Rows.OpenSpec.upto Rows.fnExactEntryTextSpec).bare.plain.varTypes Tryz.prog ++ Tryz.f6.resultTypes.toList).any (Tryz.prog.wideKeysFrom ·))) = true := by kernel_rfl
theorem j18 : ((Rows.OpenSpec.upto Rows.fnExactEntryTextSpec).bare.vars.all (Tryz.prog.varReadable ·)) = true := by kernel_rfl
theorem j19 : (Tryz.f6.resultTypes.all (fun t => Tryz.prog.readableRec t && decide (t < Tryz.prog.types.size))) = true := by kernel_rfl
theorem j20 : ((Rows.fnExactEntryTextUptoRow.ifacesOut == Tryz.f6.resultTypes.toList.any (Tryz.prog.ifacesRec ·))) = true := by kernel_rfl
theorem j21 : ((Rows.fnExactEntryTextUptoRow.loopsOut == Tryz.f6.resultTypes.toList.any (Tryz.prog.loopsFrom ·))) = true := by kernel_rfl
theorem j22 : ((Rows.fnExactEntryTextUptoRow.plainKeys == Tryz.prog.plainKeys)) = true := by kernel_rfl
theorem j23 : (Rows.fnExactEntryTextUptoRow.shortTexts.isNone) = true := by kernel_rfl
theorem j26 : ((Rows.fnExactEntryTextUptoRow.lifted == Tryz.prog.liftsFinal)) = true := by kernel_rfl
theorem j27 : ((Tryz.prog.make == some Rows.fnExactEntryTextUptoRow.make)) = true := by kernel_rfl
theorem j28 : ((Rows.fnExactEntryTextUptoRow.kinds == (if Rows.fnExactEntryTextUptoRow.domain.isEmpty then [] else Tryz.f6.params.toList.map fun t => match Tryz.prog.underlying t with | some (.int k) => some k | _ => none))) = true := by kernel_rfl
theorem j29 : ((Rows.fnExactEntryTextUptoRow.pinned == Rows.fnExactEntryTextUptoRow.pinnedBy)) = true := by kernel_rfl
theorem j30 : ((Rows.fnExactEntryTextUptoRow.veiled == (Tryz.f6.params.toList ++ (Rows.OpenSpec.upto Rows.fnExactEntryTextSpec).bare.plain.varTypes Tryz.prog ++ Tryz.f6.resultTypes.toList).any (Tryz.prog.veiledRec ·))) = true := by kernel_rfl
theorem j31 : (Rows.fnExactEntryTextUptoRow.veiledFits Tryz.prog Tryz.f6.params.toList (Tryz.f6.params.toList ++ (Rows.OpenSpec.upto Rows.fnExactEntryTextSpec).bare.plain.varTypes Tryz.prog ++ Tryz.f6.resultTypes.toList)) = true := by kernel_rfl
theorem inst : Tryz.f6.isInstance Tryz.prog Rows.fnExactEntryTextUptoRow.origin Rows.fnExactEntryTextUptoRow.targs := of_decide_eq_true (by kernel_rfl)
theorem wrap : Tryz.f6.isWrapper Tryz.prog Rows.fnExactEntryTextUptoRow.wrapper Rows.fnExactEntryTextUptoRow.mainSum := by unfold Func.isWrapper; first | (rw [if_pos (by decide +kernel)]; kernel_rfl) | (rw [if_neg (by decide +kernel)]; exact ⟨rfl, rfl⟩)
theorem wfText : Rows.fnExactEntryTextUptoRow.wfByText (Rows.OpenSpec.upto Rows.fnExactEntryTextSpec) = true := by kernel_rfl
theorem goes : false = Rows.fnExactEntryTextUptoRow.goesBy Tryz.prog := by kernel_rfl
theorem noInit : Tryz.prog.inits.idxOf? 6 = none := by kernel_rfl
theorem p1 : Tryz.prog.funcNamed "loop.example/g01073/laws.FnExactEntryText" = some 6 := by kernel_rfl
theorem q0 : Tryz.prog.wantsStandIn 22 = false := by kernel_rfl
theorem q1 : Tryz.prog.wantsStandIn 49 = false := by kernel_rfl
end Go.Proofs.YtldhpaflmnlcaaaGreatDoor.cardEt
