/-
  The closed facts of FnExactParseAct's row, one theorem each. By a program of my own (card.py).
-/
import Derived.Test.YtbljmfcifljkaaaGreatDoorUZ
set_option linter.all false
set_option maxRecDepth 100000
set_option maxHeartbeats 8000000
namespace Go.Proofs.YtbljmfcifljkaaaGreatDoor.cardPa
open Go.ChangeShapes Go.WideShapes Go.ChangeAt Go.RowKit
theorem j0:(Rows.fnExactParseActUptoRow.wf (OpenSpec.ofChange (Rows.OpenSpec.upto Rows.fnExactParseActSpec).bare))=true:=by kernel_rfl
theorem j3:(Tryz.f6.params.all (Tryz.prog.readableRec ·))=true:=by kernel_rfl
theorem j4:(namedTie Tryz.prog Rows.fnExactParseActUptoRow.named (Rows.OpenSpec.upto Rows.fnExactParseActSpec).bare.vars)=true:=by kernel_rfl
theorem j5:((Rows.fnExactParseActUptoRow.stops == []))=true:=by kernel_rfl
theorem j7:((Rows.fnExactParseActUptoRow.knobs == []))=true:=by kernel_rfl
theorem j9:((Rows.fnExactParseActUptoRow.inPlace == Tryz.prog.inPlace 6))=true:=by kernel_rfl
theorem j10:((Rows.fnExactParseActUptoRow.unfollowed == Tryz.prog.unfollowed 6))=true:=by kernel_rfl
theorem j11:((Rows.fnExactParseActUptoRow.recurses == Tryz.prog.recurses 6))=true:=by kernel_rfl
theorem j12:((Rows.fnExactParseActUptoRow.named == Tryz.prog.varsNamed 6))=true:=by kernel_rfl
theorem j13:((Rows.fnExactParseActUptoRow.maps == (Tryz.f6.params.toList ++ (Rows.OpenSpec.upto Rows.fnExactParseActSpec).bare.plain.varTypes Tryz.prog).any (Tryz.prog.mapsRec ·)))=true:=by kernel_rfl
theorem j14:((Rows.fnExactParseActUptoRow.ifaces == (Tryz.f6.params.toList ++ (Rows.OpenSpec.upto Rows.fnExactParseActSpec).bare.plain.varTypes Tryz.prog).any (Tryz.prog.ifacesRec ·)))=true:=by kernel_rfl
theorem j15:((Rows.fnExactParseActUptoRow.mapsOut == Tryz.prog.mapsAmong Tryz.f6.resultTypes.toList))=true:=by kernel_rfl
theorem j16:((Rows.fnExactParseActUptoRow.loops == (Tryz.f6.params.toList ++ (Rows.OpenSpec.upto Rows.fnExactParseActSpec).bare.plain.varTypes Tryz.prog).any (Tryz.prog.loopsFrom ·)))=true:=by kernel_rfl
theorem j17:((Rows.fnExactParseActUptoRow.wideKeys == (Tryz.f6.params.toList ++ (Rows.OpenSpec.upto Rows.fnExactParseActSpec).bare.plain.varTypes Tryz.prog ++ Tryz.f6.resultTypes.toList).any (Tryz.prog.wideKeysFrom ·)))=true:=by kernel_rfl
theorem j18:((Rows.OpenSpec.upto Rows.fnExactParseActSpec).bare.vars.all (Tryz.prog.varReadable ·))=true:=by kernel_rfl
theorem j19:(Tryz.f6.resultTypes.all (fun t=>Tryz.prog.readableRec t && decide (t<Tryz.prog.types.size)))=true:=by kernel_rfl
theorem j20:((Rows.fnExactParseActUptoRow.ifacesOut == Tryz.f6.resultTypes.toList.any (Tryz.prog.ifacesRec ·)))=true:=by kernel_rfl
theorem j21:((Rows.fnExactParseActUptoRow.loopsOut == Tryz.f6.resultTypes.toList.any (Tryz.prog.loopsFrom ·)))=true:=by kernel_rfl
theorem j22:((Rows.fnExactParseActUptoRow.plainKeys == Tryz.prog.plainKeys))=true:=by kernel_rfl
theorem j23:(Rows.fnExactParseActUptoRow.shortTexts.isNone)=true:=by kernel_rfl
theorem j26:((Rows.fnExactParseActUptoRow.lifted == Tryz.prog.liftsFinal))=true:=by kernel_rfl
theorem j27:((Tryz.prog.make == some Rows.fnExactParseActUptoRow.make))=true:=by kernel_rfl
theorem j28:((Rows.fnExactParseActUptoRow.kinds == (if Rows.fnExactParseActUptoRow.domain.isEmpty then [] else Tryz.f6.params.toList.map fun t=>match Tryz.prog.underlying t with|some (.int k)=>some k|_=>none)))=true:=by kernel_rfl
theorem j29:((Rows.fnExactParseActUptoRow.pinned == Rows.fnExactParseActUptoRow.pinnedBy))=true:=by kernel_rfl
theorem j30:((Rows.fnExactParseActUptoRow.veiled == (Tryz.f6.params.toList ++ (Rows.OpenSpec.upto Rows.fnExactParseActSpec).bare.plain.varTypes Tryz.prog ++ Tryz.f6.resultTypes.toList).any (Tryz.prog.veiledRec ·)))=true:=by kernel_rfl
theorem j31:(Rows.fnExactParseActUptoRow.veiledFits Tryz.prog Tryz.f6.params.toList (Tryz.f6.params.toList ++ (Rows.OpenSpec.upto Rows.fnExactParseActSpec).bare.plain.varTypes Tryz.prog ++ Tryz.f6.resultTypes.toList))=true:=by kernel_rfl
theorem inst:Tryz.f6.isInstance Tryz.prog Rows.fnExactParseActUptoRow.origin Rows.fnExactParseActUptoRow.targs:=of_decide_eq_true (by kernel_rfl)
theorem wrap:Tryz.f6.isWrapper Tryz.prog Rows.fnExactParseActUptoRow.wrapper Rows.fnExactParseActUptoRow.mainSum:=by unfold Func.isWrapper;first|(rw [if_pos (by decide +kernel)];kernel_rfl)|(rw [if_neg (by decide +kernel)];exact ⟨rfl,rfl⟩)
theorem wfText:Rows.fnExactParseActUptoRow.wfByText (Rows.OpenSpec.upto Rows.fnExactParseActSpec)=true:=by kernel_rfl
theorem goes:false=Rows.fnExactParseActUptoRow.goesBy Tryz.prog:=by kernel_rfl
theorem noInit:Tryz.prog.inits.idxOf? 6=none:=by kernel_rfl
theorem p1 : Tryz.prog.funcNamed "loop.example/g01073/laws.FnExactParseAct" = some 6 := by kernel_rfl
theorem q0:Tryz.prog.wantsStandIn 44=false:=by kernel_rfl
theorem q1:Tryz.prog.wantsStandIn 9=false:=by kernel_rfl
end Go.Proofs.YtbljmfcifljkaaaGreatDoor.cardPa
