/-
  The closed facts of FnExactJournalOf's row, one theorem each. By a program of my own (card.py).
-/
import Derived.Test.YtldhpaflmnlcaaaGreatDoorQZ
set_option linter.all false
namespace Go.Proofs.YtldhpaflmnlcaaaGreatDoor.cardJo
open Go.ChangeShapes Go.WideShapes Go.ChangeAt Go.RowKit
theorem j0 : (Rows.fnExactJournalOfUptoRow.wf (OpenSpec.ofChange (Rows.OpenSpec.upto Rows.fnExactJournalOfSpec).bare)) = true := by kernel_rfl
theorem j3 : (Tryz.f8.params.all (Tryz.prog.readableRec ·)) = true := by kernel_rfl
theorem j4 : (namedTie Tryz.prog Rows.fnExactJournalOfUptoRow.named (Rows.OpenSpec.upto Rows.fnExactJournalOfSpec).bare.vars) = true := by kernel_rfl
theorem j5 : ((Rows.fnExactJournalOfUptoRow.stops == [])) = true := by kernel_rfl
theorem j7 : ((Rows.fnExactJournalOfUptoRow.knobs == [])) = true := by kernel_rfl
theorem j9 : ((Rows.fnExactJournalOfUptoRow.inPlace == Tryz.prog.inPlace 8)) = true := by kernel_rfl
theorem j10 : ((Rows.fnExactJournalOfUptoRow.unfollowed == Tryz.prog.unfollowed 8)) = true := by kernel_rfl
theorem j11 : ((Rows.fnExactJournalOfUptoRow.recurses == Tryz.prog.recurses 8)) = true := by kernel_rfl
theorem j12 : ((Rows.fnExactJournalOfUptoRow.named == Tryz.prog.varsNamed 8)) = true := by kernel_rfl
theorem j13 : ((Rows.fnExactJournalOfUptoRow.maps == (Tryz.f8.params.toList ++ (Rows.OpenSpec.upto Rows.fnExactJournalOfSpec).bare.plain.varTypes Tryz.prog).any (Tryz.prog.mapsRec ·))) = true := by kernel_rfl
theorem j14 : ((Rows.fnExactJournalOfUptoRow.ifaces == (Tryz.f8.params.toList ++ (Rows.OpenSpec.upto Rows.fnExactJournalOfSpec).bare.plain.varTypes Tryz.prog).any (Tryz.prog.ifacesRec ·))) = true := by kernel_rfl
theorem j15 : ((Rows.fnExactJournalOfUptoRow.mapsOut == Tryz.prog.mapsAmong Tryz.f8.resultTypes.toList)) = true := by kernel_rfl
theorem j16 : ((Rows.fnExactJournalOfUptoRow.loops == (Tryz.f8.params.toList ++ (Rows.OpenSpec.upto Rows.fnExactJournalOfSpec).bare.plain.varTypes Tryz.prog).any (Tryz.prog.loopsFrom ·))) = true := by kernel_rfl
theorem j17 : ((Rows.fnExactJournalOfUptoRow.wideKeys == (Tryz.f8.params.toList ++ (Rows.OpenSpec.upto Rows.fnExactJournalOfSpec).bare.plain.varTypes Tryz.prog ++ Tryz.f8.resultTypes.toList).any (Tryz.prog.wideKeysFrom ·))) = true := by kernel_rfl
theorem j18 : ((Rows.OpenSpec.upto Rows.fnExactJournalOfSpec).bare.vars.all (Tryz.prog.varReadable ·)) = true := by kernel_rfl
theorem j19 : (Tryz.f8.resultTypes.all (fun t => Tryz.prog.readableRec t && decide (t < Tryz.prog.types.size))) = true := by kernel_rfl
theorem j20 : ((Rows.fnExactJournalOfUptoRow.ifacesOut == Tryz.f8.resultTypes.toList.any (Tryz.prog.ifacesRec ·))) = true := by kernel_rfl
theorem j21 : ((Rows.fnExactJournalOfUptoRow.loopsOut == Tryz.f8.resultTypes.toList.any (Tryz.prog.loopsFrom ·))) = true := by kernel_rfl
theorem j22 : ((Rows.fnExactJournalOfUptoRow.plainKeys == Tryz.prog.plainKeys)) = true := by kernel_rfl
theorem j23 : (Rows.fnExactJournalOfUptoRow.shortTexts.isNone) = true := by kernel_rfl
theorem j26 : ((Rows.fnExactJournalOfUptoRow.lifted == Tryz.prog.liftsFinal)) = true := by kernel_rfl
theorem j27 : ((Tryz.prog.make == some Rows.fnExactJournalOfUptoRow.make)) = true := by kernel_rfl
theorem j28 : ((Rows.fnExactJournalOfUptoRow.kinds == (if Rows.fnExactJournalOfUptoRow.domain.isEmpty then [] else Tryz.f8.params.toList.map fun t => match Tryz.prog.underlying t with | some (.int k) => some k | _ => none))) = true := by kernel_rfl
theorem j29 : ((Rows.fnExactJournalOfUptoRow.pinned == Rows.fnExactJournalOfUptoRow.pinnedBy)) = true := by kernel_rfl
theorem j30 : ((Rows.fnExactJournalOfUptoRow.veiled == (Tryz.f8.params.toList ++ (Rows.OpenSpec.upto Rows.fnExactJournalOfSpec).bare.plain.varTypes Tryz.prog ++ Tryz.f8.resultTypes.toList).any (Tryz.prog.veiledRec ·))) = true := by kernel_rfl
theorem j31 : (Rows.fnExactJournalOfUptoRow.veiledFits Tryz.prog Tryz.f8.params.toList (Tryz.f8.params.toList ++ (Rows.OpenSpec.upto Rows.fnExactJournalOfSpec).bare.plain.varTypes Tryz.prog ++ Tryz.f8.resultTypes.toList)) = true := by kernel_rfl
theorem inst : Tryz.f8.isInstance Tryz.prog Rows.fnExactJournalOfUptoRow.origin Rows.fnExactJournalOfUptoRow.targs := of_decide_eq_true (by kernel_rfl)
theorem wrap : Tryz.f8.isWrapper Tryz.prog Rows.fnExactJournalOfUptoRow.wrapper Rows.fnExactJournalOfUptoRow.mainSum := by unfold Func.isWrapper; first | (rw [if_pos (by decide +kernel)]; kernel_rfl) | (rw [if_neg (by decide +kernel)]; exact ⟨rfl, rfl⟩)
theorem wfText : Rows.fnExactJournalOfUptoRow.wfByText (Rows.OpenSpec.upto Rows.fnExactJournalOfSpec) = true := by kernel_rfl
theorem goes : false = Rows.fnExactJournalOfUptoRow.goesBy Tryz.prog := by kernel_rfl
theorem noInit : Tryz.prog.inits.idxOf? 8 = none := by kernel_rfl
theorem p1 : Tryz.prog.funcNamed "loop.example/g01073/laws.FnExactJournalOf" = some 8 := by kernel_rfl
theorem q0 : Tryz.prog.wantsStandIn 60 = false := by kernel_rfl
end Go.Proofs.YtldhpaflmnlcaaaGreatDoor.cardJo
