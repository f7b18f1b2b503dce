/-
  The closed facts of FnExactParseEntry's row, one theorem each. By a program of my own (card.py).
-/
import Derived.Test.YtldhpaflmnlcaaaGreatDoorQZ
set_option linter.all false
namespace Go.Proofs.YtldhpaflmnlcaaaGreatDoor.cardPe
open Go.ChangeShapes Go.WideShapes Go.ChangeAt Go.RowKit
theorem j0:(Rows.fnExactParseEntryUptoRow.wf (OpenSpec.ofChange (Rows.OpenSpec.upto Rows.fnExactParseEntrySpec).bare)) = true:=by kernel_rfl
theorem j3:(Tryz.f10.params.all (Tryz.prog.readableRec ·)) = true:=by kernel_rfl
theorem j4:(namedTie Tryz.prog Rows.fnExactParseEntryUptoRow.named (Rows.OpenSpec.upto Rows.fnExactParseEntrySpec).bare.vars) = true:=by kernel_rfl
theorem j5:((Rows.fnExactParseEntryUptoRow.stops == [])) = true:=by kernel_rfl
theorem j7:((Rows.fnExactParseEntryUptoRow.knobs == [])) = true:=by kernel_rfl
theorem j9:((Rows.fnExactParseEntryUptoRow.inPlace == Tryz.prog.inPlace 10)) = true:=by kernel_rfl
theorem j10:((Rows.fnExactParseEntryUptoRow.unfollowed == Tryz.prog.unfollowed 10)) = true:=by kernel_rfl
theorem j11:((Rows.fnExactParseEntryUptoRow.recurses == Tryz.prog.recurses 10)) = true:=by kernel_rfl
theorem j12:((Rows.fnExactParseEntryUptoRow.named == Tryz.prog.varsNamed 10)) = true:=by kernel_rfl
theorem j13:((Rows.fnExactParseEntryUptoRow.maps == (Tryz.f10.params.toList ++ (Rows.OpenSpec.upto Rows.fnExactParseEntrySpec).bare.plain.varTypes Tryz.prog).any (Tryz.prog.mapsRec ·))) = true:=by kernel_rfl
theorem j14:((Rows.fnExactParseEntryUptoRow.ifaces == (Tryz.f10.params.toList ++ (Rows.OpenSpec.upto Rows.fnExactParseEntrySpec).bare.plain.varTypes Tryz.prog).any (Tryz.prog.ifacesRec ·))) = true:=by kernel_rfl
theorem j15:((Rows.fnExactParseEntryUptoRow.mapsOut == Tryz.prog.mapsAmong Tryz.f10.resultTypes.toList)) = true:=by kernel_rfl
theorem j16:((Rows.fnExactParseEntryUptoRow.loops == (Tryz.f10.params.toList ++ (Rows.OpenSpec.upto Rows.fnExactParseEntrySpec).bare.plain.varTypes Tryz.prog).any (Tryz.prog.loopsFrom ·))) = true:=by kernel_rfl
theorem j17:((Rows.fnExactParseEntryUptoRow.wideKeys == (Tryz.f10.params.toList ++ (Rows.OpenSpec.upto Rows.fnExactParseEntrySpec).bare.plain.varTypes Tryz.prog ++ Tryz.f10.resultTypes.toList).any (Tryz.prog.wideKeysFrom ·))) = true:=by kernel_rfl
theorem j18:((Rows.OpenSpec.upto Rows.fnExactParseEntrySpec).bare.vars.all (Tryz.prog.varReadable ·)) = true:=by kernel_rfl
theorem j19:(Tryz.f10.resultTypes.all (fun t=>Tryz.prog.readableRec t && decide (t < Tryz.prog.types.size))) = true:=by kernel_rfl
theorem j20:((Rows.fnExactParseEntryUptoRow.ifacesOut == Tryz.f10.resultTypes.toList.any (Tryz.prog.ifacesRec ·))) = true:=by kernel_rfl
theorem j21:((Rows.fnExactParseEntryUptoRow.loopsOut == Tryz.f10.resultTypes.toList.any (Tryz.prog.loopsFrom ·))) = true:=by kernel_rfl
theorem j22:((Rows.fnExactParseEntryUptoRow.plainKeys == Tryz.prog.plainKeys)) = true:=by kernel_rfl
theorem j23:(Rows.fnExactParseEntryUptoRow.shortTexts.isNone) = true:=by kernel_rfl
theorem j26:((Rows.fnExactParseEntryUptoRow.lifted == Tryz.prog.liftsFinal)) = true:=by kernel_rfl
theorem j27:((Tryz.prog.make == some Rows.fnExactParseEntryUptoRow.make)) = true:=by kernel_rfl
theorem j28:((Rows.fnExactParseEntryUptoRow.kinds == (if Rows.fnExactParseEntryUptoRow.domain.isEmpty then [] else Tryz.f10.params.toList.map fun t=>match Tryz.prog.underlying t with|some (.int k)=>some k|_=>none))) = true:=by kernel_rfl
theorem j29:((Rows.fnExactParseEntryUptoRow.pinned == Rows.fnExactParseEntryUptoRow.pinnedBy)) = true:=by kernel_rfl
theorem j30:((Rows.fnExactParseEntryUptoRow.veiled == (Tryz.f10.params.toList ++ (Rows.OpenSpec.upto Rows.fnExactParseEntrySpec).bare.plain.varTypes Tryz.prog ++ Tryz.f10.resultTypes.toList).any (Tryz.prog.veiledRec ·))) = true:=by kernel_rfl
theorem j31:(Rows.fnExactParseEntryUptoRow.veiledFits Tryz.prog Tryz.f10.params.toList (Tryz.f10.params.toList ++ (Rows.OpenSpec.upto Rows.fnExactParseEntrySpec).bare.plain.varTypes Tryz.prog ++ Tryz.f10.resultTypes.toList)) = true:=by kernel_rfl
theorem inst:Tryz.f10.isInstance Tryz.prog Rows.fnExactParseEntryUptoRow.origin Rows.fnExactParseEntryUptoRow.targs:=of_decide_eq_true (by kernel_rfl)
theorem wrap:Tryz.f10.isWrapper Tryz.prog Rows.fnExactParseEntryUptoRow.wrapper Rows.fnExactParseEntryUptoRow.mainSum:=by unfold Func.isWrapper;first|(rw [if_pos (by decide +kernel)];kernel_rfl)|(rw [if_neg (by decide +kernel)];exact ⟨rfl,rfl⟩)
theorem wfText:Rows.fnExactParseEntryUptoRow.wfByText (Rows.OpenSpec.upto Rows.fnExactParseEntrySpec) = true:=by kernel_rfl
theorem goes:false = Rows.fnExactParseEntryUptoRow.goesBy Tryz.prog:=by kernel_rfl
theorem noInit:Tryz.prog.inits.idxOf? 10 = none:=by kernel_rfl
theorem p1 : Tryz.prog.funcNamed "loop.example/g01073/laws.FnExactParseEntry" = some 10 := by kernel_rfl
theorem q0:Tryz.prog.wantsStandIn 22 = false:=by kernel_rfl
theorem q1:Tryz.prog.wantsStandIn 9 = false:=by kernel_rfl
end Go.Proofs.YtldhpaflmnlcaaaGreatDoor.cardPe
