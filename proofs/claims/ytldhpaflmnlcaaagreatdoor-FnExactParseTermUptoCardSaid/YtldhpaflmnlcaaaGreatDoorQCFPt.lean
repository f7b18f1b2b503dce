/-
  The closed facts of FnExactParseTerm's row, one theorem each. By a program of my own (card.py).
-/
import Derived.Test.YtldhpaflmnlcaaaGreatDoorQZ
set_option linter.all false
set_option maxRecDepth 100000
set_option maxHeartbeats 8000000
namespace Go.Proofs.YtldhpaflmnlcaaaGreatDoor.cardPt
open Go.ChangeShapes Go.WideShapes Go.ChangeAt Go.RowKit
theorem j0:(Rows.fnExactParseTermUptoRow.wf (OpenSpec.ofChange (Rows.OpenSpec.upto Rows.fnExactParseTermSpec).bare))=true:=by kernel_rfl
theorem j3:(Tryz.f5.params.all (Tryz.prog.readableRec ·))=true:=by kernel_rfl
theorem j4:(namedTie Tryz.prog Rows.fnExactParseTermUptoRow.named (Rows.OpenSpec.upto Rows.fnExactParseTermSpec).bare.vars)=true:=by kernel_rfl
theorem j5:((Rows.fnExactParseTermUptoRow.stops == []))=true:=by kernel_rfl
theorem j7:((Rows.fnExactParseTermUptoRow.knobs == []))=true:=by kernel_rfl
theorem j9:((Rows.fnExactParseTermUptoRow.inPlace == Tryz.prog.inPlace 5))=true:=by kernel_rfl
theorem j10:((Rows.fnExactParseTermUptoRow.unfollowed == Tryz.prog.unfollowed 5))=true:=by kernel_rfl
theorem j11:((Rows.fnExactParseTermUptoRow.recurses == Tryz.prog.recurses 5))=true:=by kernel_rfl
theorem j12:((Rows.fnExactParseTermUptoRow.named == Tryz.prog.varsNamed 5))=true:=by kernel_rfl
theorem j13:((Rows.fnExactParseTermUptoRow.maps == (Tryz.f5.params.toList ++ (Rows.OpenSpec.upto Rows.fnExactParseTermSpec).bare.plain.varTypes Tryz.prog).any (Tryz.prog.mapsRec ·)))=true:=by kernel_rfl
theorem j14:((Rows.fnExactParseTermUptoRow.ifaces == (Tryz.f5.params.toList ++ (Rows.OpenSpec.upto Rows.fnExactParseTermSpec).bare.plain.varTypes Tryz.prog).any (Tryz.prog.ifacesRec ·)))=true:=by kernel_rfl
theorem j15:((Rows.fnExactParseTermUptoRow.mapsOut == Tryz.prog.mapsAmong Tryz.f5.resultTypes.toList))=true:=by kernel_rfl
theorem j16:((Rows.fnExactParseTermUptoRow.loops == (Tryz.f5.params.toList ++ (Rows.OpenSpec.upto Rows.fnExactParseTermSpec).bare.plain.varTypes Tryz.prog).any (Tryz.prog.loopsFrom ·)))=true:=by kernel_rfl
theorem j17:((Rows.fnExactParseTermUptoRow.wideKeys == (Tryz.f5.params.toList ++ (Rows.OpenSpec.upto Rows.fnExactParseTermSpec).bare.plain.varTypes Tryz.prog ++ Tryz.f5.resultTypes.toList).any (Tryz.prog.wideKeysFrom ·)))=true:=by kernel_rfl
theorem j18:((Rows.OpenSpec.upto Rows.fnExactParseTermSpec).bare.vars.all (Tryz.prog.varReadable ·))=true:=by kernel_rfl
theorem j19:(Tryz.f5.resultTypes.all (fun t=>Tryz.prog.readableRec t && decide (t<Tryz.prog.types.size)))=true:=by kernel_rfl
theorem j20:((Rows.fnExactParseTermUptoRow.ifacesOut == Tryz.f5.resultTypes.toList.any (Tryz.prog.ifacesRec ·)))=true:=by kernel_rfl
theorem j21:((Rows.fnExactParseTermUptoRow.loopsOut == Tryz.f5.resultTypes.toList.any (Tryz.prog.loopsFrom ·)))=true:=by kernel_rfl
theorem j22:((Rows.fnExactParseTermUptoRow.plainKeys == Tryz.prog.plainKeys))=true:=by kernel_rfl
theorem j23:(Rows.fnExactParseTermUptoRow.shortTexts.isNone)=true:=by kernel_rfl
theorem j26:((Rows.fnExactParseTermUptoRow.lifted == Tryz.prog.liftsFinal))=true:=by kernel_rfl
theorem j27:((Tryz.prog.make == some Rows.fnExactParseTermUptoRow.make))=true:=by kernel_rfl
theorem j28:((Rows.fnExactParseTermUptoRow.kinds == (if Rows.fnExactParseTermUptoRow.domain.isEmpty then [] else Tryz.f5.params.toList.map fun t=>match Tryz.prog.underlying t with|some (.int k)=>some k|_=>none)))=true:=by kernel_rfl
theorem j29:((Rows.fnExactParseTermUptoRow.pinned == Rows.fnExactParseTermUptoRow.pinnedBy))=true:=by kernel_rfl
theorem j30:((Rows.fnExactParseTermUptoRow.veiled == (Tryz.f5.params.toList ++ (Rows.OpenSpec.upto Rows.fnExactParseTermSpec).bare.plain.varTypes Tryz.prog ++ Tryz.f5.resultTypes.toList).any (Tryz.prog.veiledRec ·)))=true:=by kernel_rfl
theorem j31:(Rows.fnExactParseTermUptoRow.veiledFits Tryz.prog Tryz.f5.params.toList (Tryz.f5.params.toList ++ (Rows.OpenSpec.upto Rows.fnExactParseTermSpec).bare.plain.varTypes Tryz.prog ++ Tryz.f5.resultTypes.toList))=true:=by kernel_rfl
theorem inst:Tryz.f5.isInstance Tryz.prog Rows.fnExactParseTermUptoRow.origin Rows.fnExactParseTermUptoRow.targs:=of_decide_eq_true (by kernel_rfl)
theorem wrap:Tryz.f5.isWrapper Tryz.prog Rows.fnExactParseTermUptoRow.wrapper Rows.fnExactParseTermUptoRow.mainSum:=by unfold Func.isWrapper;first|(rw [if_pos (by decide +kernel)];kernel_rfl)|(rw [if_neg (by decide +kernel)];exact ⟨rfl,rfl⟩)
theorem wfText:Rows.fnExactParseTermUptoRow.wfByText (Rows.OpenSpec.upto Rows.fnExactParseTermSpec)=true:=by kernel_rfl
theorem goes:false=Rows.fnExactParseTermUptoRow.goesBy Tryz.prog:=by kernel_rfl
theorem noInit:Tryz.prog.inits.idxOf? 5=none:=by kernel_rfl
theorem p1 : Tryz.prog.funcNamed "loop.example/g01073/laws.FnExactParseTerm" = some 5 := by kernel_rfl
theorem q0:Tryz.prog.wantsStandIn 22=false:=by kernel_rfl
theorem q1:Tryz.prog.wantsStandIn 9=false:=by kernel_rfl
end Go.Proofs.YtldhpaflmnlcaaaGreatDoor.cardPt
