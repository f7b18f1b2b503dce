/-
  The closed facts of FnExactParseDef's row, one theorem each. By a program of my own (card.py).
-/
import Derived.Test.YtldhpaflmnlcaaaGreatDoorQZ
set_option linter.all false
namespace Go.Proofs.YtldhpaflmnlcaaaGreatDoor.cardPd
open Go.ChangeShapes Go.WideShapes Go.ChangeAt Go.RowKit
theorem j0 : (Rows.fnExactParseDefUptoRow.wf (OpenSpec.ofChange (Rows.OpenSpec.upto Rows.fnExactParseDefSpec).bare)) = true := by kernel_rfl
theorem j3 : (Tryz.f3.params.all (Tryz.prog.readableRec ·)) = true := by kernel_rfl
theorem j4 : (namedTie Tryz.prog Rows.fnExactParseDefUptoRow.named (Rows.OpenSpec.upto Rows.fnExactParseDefSpec).bare.vars) = true := by kernel_rfl
theorem j5 : ((Rows.fnExactParseDefUptoRow.stops == [])) = true := by kernel_rfl
theorem j7 : ((Rows.fnExactParseDefUptoRow.knobs == [])) = true := by kernel_rfl
theorem j9 : ((Rows.fnExactParseDefUptoRow.inPlace == Tryz.prog.inPlace 3)) = true := by kernel_rfl
theorem j10 : ((Rows.fnExactParseDefUptoRow.unfollowed == Tryz.prog.unfollowed 3)) = true := by kernel_rfl
theorem j11 : ((Rows.fnExactParseDefUptoRow.recurses == Tryz.prog.recurses 3)) = true := by kernel_rfl
theorem j12 : ((Rows.fnExactParseDefUptoRow.named == Tryz.prog.varsNamed 3)) = true := by kernel_rfl
theorem j13 : ((Rows.fnExactParseDefUptoRow.maps == (Tryz.f3.params.toList ++ (Rows.OpenSpec.upto Rows.fnExactParseDefSpec).bare.plain.varTypes Tryz.prog).any (Tryz.prog.mapsRec ·))) = true := by kernel_rfl
theorem j14 : ((Rows.fnExactParseDefUptoRow.ifaces == (Tryz.f3.params.toList ++ (Rows.OpenSpec.upto Rows.fnExactParseDefSpec).bare.plain.varTypes Tryz.prog).any (Tryz.prog.ifacesRec ·))) = true := by kernel_rfl
theorem j15 : ((Rows.fnExactParseDefUptoRow.mapsOut == Tryz.prog.mapsAmong Tryz.f3.resultTypes.toList)) = true := by kernel_rfl
theorem j16 : ((Rows.fnExactParseDefUptoRow.loops == (Tryz.f3.params.toList ++ (Rows.OpenSpec.upto Rows.fnExactParseDefSpec).bare.plain.varTypes Tryz.prog).any (Tryz.prog.loopsFrom ·))) = true := by kernel_rfl
theorem j17 : ((Rows.fnExactParseDefUptoRow.wideKeys == (Tryz.f3.params.toList ++ (Rows.OpenSpec.upto Rows.fnExactParseDefSpec).bare.plain.varTypes Tryz.prog ++ Tryz.f3.resultTypes.toList).any (Tryz.prog.wideKeysFrom ·))) = true := by kernel_rfl
theorem j18 : ((Rows.OpenSpec.upto Rows.fnExactParseDefSpec).bare.vars.all (Tryz.prog.varReadable ·)) = true := by kernel_rfl
theorem j19 : (Tryz.f3.resultTypes.all (fun t => Tryz.prog.readableRec t && decide (t < Tryz.prog.types.size))) = true := by kernel_rfl
theorem j20 : ((Rows.fnExactParseDefUptoRow.ifacesOut == Tryz.f3.resultTypes.toList.any (Tryz.prog.ifacesRec ·))) = true := by kernel_rfl
theorem j21 : ((Rows.fnExactParseDefUptoRow.loopsOut == Tryz.f3.resultTypes.toList.any (Tryz.prog.loopsFrom ·))) = true := by kernel_rfl
theorem j22 : ((Rows.fnExactParseDefUptoRow.plainKeys == Tryz.prog.plainKeys)) = true := by kernel_rfl
theorem j23 : (Rows.fnExactParseDefUptoRow.shortTexts.isNone) = true := by kernel_rfl
theorem j26 : ((Rows.fnExactParseDefUptoRow.lifted == Tryz.prog.liftsFinal)) = true := by kernel_rfl
theorem j27 : ((Tryz.prog.make == some Rows.fnExactParseDefUptoRow.make)) = true := by kernel_rfl
theorem j28 : ((Rows.fnExactParseDefUptoRow.kinds == (if Rows.fnExactParseDefUptoRow.domain.isEmpty then [] else Tryz.f3.params.toList.map fun t => match Tryz.prog.underlying t with | some (.int k) => some k | _ => none))) = true := by kernel_rfl
theorem j29 : ((Rows.fnExactParseDefUptoRow.pinned == Rows.fnExactParseDefUptoRow.pinnedBy)) = true := by kernel_rfl
theorem j30 : ((Rows.fnExactParseDefUptoRow.veiled == (Tryz.f3.params.toList ++ (Rows.OpenSpec.upto Rows.fnExactParseDefSpec).bare.plain.varTypes Tryz.prog ++ Tryz.f3.resultTypes.toList).any (Tryz.prog.veiledRec ·))) = true := by kernel_rfl
theorem j31 : (Rows.fnExactParseDefUptoRow.veiledFits Tryz.prog Tryz.f3.params.toList (Tryz.f3.params.toList ++ (Rows.OpenSpec.upto Rows.fnExactParseDefSpec).bare.plain.varTypes Tryz.prog ++ Tryz.f3.resultTypes.toList)) = true := by kernel_rfl
theorem inst : Tryz.f3.isInstance Tryz.prog Rows.fnExactParseDefUptoRow.origin Rows.fnExactParseDefUptoRow.targs := of_decide_eq_true (by kernel_rfl)
theorem wrap : Tryz.f3.isWrapper Tryz.prog Rows.fnExactParseDefUptoRow.wrapper Rows.fnExactParseDefUptoRow.mainSum := by unfold Func.isWrapper; first | (rw [if_pos (by decide +kernel)]; kernel_rfl) | (rw [if_neg (by decide +kernel)]; exact ⟨rfl, rfl⟩)
theorem wfText : Rows.fnExactParseDefUptoRow.wfByText (Rows.OpenSpec.upto Rows.fnExactParseDefSpec) = true := by kernel_rfl
theorem goes : false = Rows.fnExactParseDefUptoRow.goesBy Tryz.prog := by kernel_rfl
theorem noInit : Tryz.prog.inits.idxOf? 3 = none := by kernel_rfl
theorem p1 : Tryz.prog.funcNamed "loop.example/g01073/laws.FnExactParseDef" = some 3 := by kernel_rfl
theorem q0 : Tryz.prog.wantsStandIn 22 = false := by kernel_rfl
theorem q1 : Tryz.prog.wantsStandIn 9 = false := by kernel_rfl
end Go.Proofs.YtldhpaflmnlcaaaGreatDoor.cardPd
