/-
  The closed facts of FnExactParseRule's row, one theorem each. By a program of my own (card.py).
-/
import Derived.Test.YtbljmfcifljkaaaGreatDoorYZ
set_option linter.all false
set_option maxRecDepth 100000
set_option maxHeartbeats 8000000
namespace Go.Proofs.YtbljmfcifljkaaaGreatDoor.cardRu
open Go.ChangeShapes Go.WideShapes Go.ChangeAt Go.RowKit
theorem j0:(Rows.fnExactParseRuleUptoRow.wf (OpenSpec.ofChange (Rows.OpenSpec.upto Rows.fnExactParseRuleSpec).bare))=true:=by kernel_rfl
theorem j3:(Tryz.f4.params.all (Tryz.prog.readableRec ·))=true:=by kernel_rfl
theorem j4:(namedTie Tryz.prog Rows.fnExactParseRuleUptoRow.named (Rows.OpenSpec.upto Rows.fnExactParseRuleSpec).bare.vars)=true:=by kernel_rfl
theorem j5:((Rows.fnExactParseRuleUptoRow.stops == []))=true:=by kernel_rfl
theorem j7:((Rows.fnExactParseRuleUptoRow.knobs == []))=true:=by kernel_rfl
theorem j9:((Rows.fnExactParseRuleUptoRow.inPlace == Tryz.prog.inPlace 4))=true:=by kernel_rfl
theorem j10:((Rows.fnExactParseRuleUptoRow.unfollowed == Tryz.prog.unfollowed 4))=true:=by kernel_rfl
theorem j11:((Rows.fnExactParseRuleUptoRow.recurses == Tryz.prog.recurses 4))=true:=by kernel_rfl
theorem j12:((Rows.fnExactParseRuleUptoRow.named == Tryz.prog.varsNamed 4))=true:=by kernel_rfl
theorem j13:((Rows.fnExactParseRuleUptoRow.maps == (Tryz.f4.params.toList ++ (Rows.OpenSpec.upto Rows.fnExactParseRuleSpec).bare.plain.varTypes Tryz.prog).any (Tryz.prog.mapsRec ·)))=true:=by kernel_rfl
theorem j14:((Rows.fnExactParseRuleUptoRow.ifaces == (Tryz.f4.params.toList ++ (Rows.OpenSpec.upto Rows.fnExactParseRuleSpec).bare.plain.varTypes Tryz.prog).any (Tryz.prog.ifacesRec ·)))=true:=by kernel_rfl
theorem j15:((Rows.fnExactParseRuleUptoRow.mapsOut == Tryz.prog.mapsAmong Tryz.f4.resultTypes.toList))=true:=by kernel_rfl
theorem j16:((Rows.fnExactParseRuleUptoRow.loops == (Tryz.f4.params.toList ++ (Rows.OpenSpec.upto Rows.fnExactParseRuleSpec).bare.plain.varTypes Tryz.prog).any (Tryz.prog.loopsFrom ·)))=true:=by kernel_rfl
theorem j17:((Rows.fnExactParseRuleUptoRow.wideKeys == (Tryz.f4.params.toList ++ (Rows.OpenSpec.upto Rows.fnExactParseRuleSpec).bare.plain.varTypes Tryz.prog ++ Tryz.f4.resultTypes.toList).any (Tryz.prog.wideKeysFrom ·)))=true:=by kernel_rfl
theorem j18:((Rows.OpenSpec.upto Rows.fnExactParseRuleSpec).bare.vars.all (Tryz.prog.varReadable ·))=true:=by kernel_rfl
theorem j19:(Tryz.f4.resultTypes.all (fun t=>Tryz.prog.readableRec t && decide (t<Tryz.prog.types.size)))=true:=by kernel_rfl
theorem j20:((Rows.fnExactParseRuleUptoRow.ifacesOut == Tryz.f4.resultTypes.toList.any (Tryz.prog.ifacesRec ·)))=true:=by kernel_rfl
theorem j21:((Rows.fnExactParseRuleUptoRow.loopsOut == Tryz.f4.resultTypes.toList.any (Tryz.prog.loopsFrom ·)))=true:=by kernel_rfl
theorem j22:((Rows.fnExactParseRuleUptoRow.plainKeys == Tryz.prog.plainKeys))=true:=by kernel_rfl
theorem j23:(Rows.fnExactParseRuleUptoRow.shortTexts.isNone)=true:=by kernel_rfl
theorem j26:((Rows.fnExactParseRuleUptoRow.lifted == Tryz.prog.liftsFinal))=true:=by kernel_rfl
theorem j27:((Tryz.prog.make == some Rows.fnExactParseRuleUptoRow.make))=true:=by kernel_rfl
theorem j28:((Rows.fnExactParseRuleUptoRow.kinds == (if Rows.fnExactParseRuleUptoRow.domain.isEmpty then [] else Tryz.f4.params.toList.map fun t=>match Tryz.prog.underlying t with|some (.int k)=>some k|_=>none)))=true:=by kernel_rfl
theorem j29:((Rows.fnExactParseRuleUptoRow.pinned == Rows.fnExactParseRuleUptoRow.pinnedBy))=true:=by kernel_rfl
theorem j30:((Rows.fnExactParseRuleUptoRow.veiled == (Tryz.f4.params.toList ++ (Rows.OpenSpec.upto Rows.fnExactParseRuleSpec).bare.plain.varTypes Tryz.prog ++ Tryz.f4.resultTypes.toList).any (Tryz.prog.veiledRec ·)))=true:=by kernel_rfl
theorem j31:(Rows.fnExactParseRuleUptoRow.veiledFits Tryz.prog Tryz.f4.params.toList (Tryz.f4.params.toList ++ (Rows.OpenSpec.upto Rows.fnExactParseRuleSpec).bare.plain.varTypes Tryz.prog ++ Tryz.f4.resultTypes.toList))=true:=by kernel_rfl
theorem inst:Tryz.f4.isInstance Tryz.prog Rows.fnExactParseRuleUptoRow.origin Rows.fnExactParseRuleUptoRow.targs:=of_decide_eq_true (by kernel_rfl)
theorem wrap:Tryz.f4.isWrapper Tryz.prog Rows.fnExactParseRuleUptoRow.wrapper Rows.fnExactParseRuleUptoRow.mainSum:=by unfold Func.isWrapper;first|(rw [if_pos (by decide +kernel)];kernel_rfl)|(rw [if_neg (by decide +kernel)];exact ⟨rfl,rfl⟩)
theorem wfText:Rows.fnExactParseRuleUptoRow.wfByText (Rows.OpenSpec.upto Rows.fnExactParseRuleSpec)=true:=by kernel_rfl
theorem goes:false=Rows.fnExactParseRuleUptoRow.goesBy Tryz.prog:=by kernel_rfl
theorem noInit:Tryz.prog.inits.idxOf? 4=none:=by kernel_rfl
theorem p1 : Tryz.prog.funcNamed "loop.example/g01073/laws.FnExactParseRule" = some 4 := by kernel_rfl
theorem q0:Tryz.prog.wantsStandIn 9=false:=by kernel_rfl
end Go.Proofs.YtbljmfcifljkaaaGreatDoor.cardRu
