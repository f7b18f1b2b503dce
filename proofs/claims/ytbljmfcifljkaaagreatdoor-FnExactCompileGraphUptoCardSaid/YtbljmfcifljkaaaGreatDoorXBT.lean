/-
  The closed facts of FnExactCompileGraph's row, one theorem each. By a program of my own (card.py).
-/
import Derived.Test.YtbljmfcifljkaaaGreatDoorXBS
set_option linter.all false
set_option maxRecDepth 100000
set_option maxHeartbeats 8000000
namespace Go.Proofs.YtbljmfcifljkaaaGreatDoor.cardCg
open Go.ChangeShapes Go.WideShapes Go.ChangeAt Go.RowKit
theorem j0:(Rows.fnExactCompileGraphUptoRow.wf (OpenSpec.ofChange (Rows.OpenSpec.upto Rows.fnExactCompileGraphSpec).bare))=true:=by kernel_rfl
theorem j3:(Tryz.f7.params.all (Tryz.prog.readableRec ·))=true:=by kernel_rfl
theorem j4:(namedTie Tryz.prog Rows.fnExactCompileGraphUptoRow.named (Rows.OpenSpec.upto Rows.fnExactCompileGraphSpec).bare.vars)=true:=by kernel_rfl
theorem j5:((Rows.fnExactCompileGraphUptoRow.stops == []))=true:=by kernel_rfl
theorem j7:((Rows.fnExactCompileGraphUptoRow.knobs == []))=true:=by kernel_rfl
theorem j9:((Rows.fnExactCompileGraphUptoRow.inPlace == Tryz.prog.inPlace 7))=true:=by kernel_rfl
theorem j10:((Rows.fnExactCompileGraphUptoRow.unfollowed == Tryz.prog.unfollowed 7))=true:=by kernel_rfl
theorem j11:((Rows.fnExactCompileGraphUptoRow.recurses == Tryz.prog.recurses 7))=true:=by kernel_rfl
theorem j12:((Rows.fnExactCompileGraphUptoRow.named == Tryz.prog.varsNamed 7))=true:=by kernel_rfl
theorem j13:((Rows.fnExactCompileGraphUptoRow.maps == (Tryz.f7.params.toList ++ (Rows.OpenSpec.upto Rows.fnExactCompileGraphSpec).bare.plain.varTypes Tryz.prog).any (Tryz.prog.mapsRec ·)))=true:=by kernel_rfl
theorem j14:((Rows.fnExactCompileGraphUptoRow.ifaces == (Tryz.f7.params.toList ++ (Rows.OpenSpec.upto Rows.fnExactCompileGraphSpec).bare.plain.varTypes Tryz.prog).any (Tryz.prog.ifacesRec ·)))=true:=by kernel_rfl
theorem j15:((Rows.fnExactCompileGraphUptoRow.mapsOut == Tryz.prog.mapsAmong Tryz.f7.resultTypes.toList))=true:=by kernel_rfl
theorem j16:((Rows.fnExactCompileGraphUptoRow.loops == (Tryz.f7.params.toList ++ (Rows.OpenSpec.upto Rows.fnExactCompileGraphSpec).bare.plain.varTypes Tryz.prog).any (Tryz.prog.loopsFrom ·)))=true:=by kernel_rfl
theorem j17:((Rows.fnExactCompileGraphUptoRow.wideKeys == (Tryz.f7.params.toList ++ (Rows.OpenSpec.upto Rows.fnExactCompileGraphSpec).bare.plain.varTypes Tryz.prog ++ Tryz.f7.resultTypes.toList).any (Tryz.prog.wideKeysFrom ·)))=true:=by kernel_rfl
theorem j18:((Rows.OpenSpec.upto Rows.fnExactCompileGraphSpec).bare.vars.all (Tryz.prog.varReadable ·))=true:=by kernel_rfl
theorem j19:(Tryz.f7.resultTypes.all (fun t=>Tryz.prog.readableRec t && decide (t<Tryz.prog.types.size)))=true:=by kernel_rfl
theorem j20:((Rows.fnExactCompileGraphUptoRow.ifacesOut == Tryz.f7.resultTypes.toList.any (Tryz.prog.ifacesRec ·)))=true:=by kernel_rfl
theorem j21:((Rows.fnExactCompileGraphUptoRow.loopsOut == Tryz.f7.resultTypes.toList.any (Tryz.prog.loopsFrom ·)))=true:=by kernel_rfl
theorem j22:((Rows.fnExactCompileGraphUptoRow.plainKeys == Tryz.prog.plainKeys))=true:=by kernel_rfl
theorem j23:(Rows.fnExactCompileGraphUptoRow.shortTexts.isNone)=true:=by kernel_rfl
theorem j26:((Rows.fnExactCompileGraphUptoRow.lifted == Tryz.prog.liftsFinal))=true:=by kernel_rfl
theorem j27:((Tryz.prog.make == some Rows.fnExactCompileGraphUptoRow.make))=true:=by kernel_rfl
theorem j28:((Rows.fnExactCompileGraphUptoRow.kinds == (if Rows.fnExactCompileGraphUptoRow.domain.isEmpty then [] else Tryz.f7.params.toList.map fun t=>match Tryz.prog.underlying t with|some (.int k)=>some k|_=>none)))=true:=by kernel_rfl
theorem j29:((Rows.fnExactCompileGraphUptoRow.pinned == Rows.fnExactCompileGraphUptoRow.pinnedBy))=true:=by kernel_rfl
theorem j30:((Rows.fnExactCompileGraphUptoRow.veiled == (Tryz.f7.params.toList ++ (Rows.OpenSpec.upto Rows.fnExactCompileGraphSpec).bare.plain.varTypes Tryz.prog ++ Tryz.f7.resultTypes.toList).any (Tryz.prog.veiledRec ·)))=true:=by kernel_rfl
theorem j31:(Rows.fnExactCompileGraphUptoRow.veiledFits Tryz.prog Tryz.f7.params.toList (Tryz.f7.params.toList ++ (Rows.OpenSpec.upto Rows.fnExactCompileGraphSpec).bare.plain.varTypes Tryz.prog ++ Tryz.f7.resultTypes.toList))=true:=by kernel_rfl
theorem inst:Tryz.f7.isInstance Tryz.prog Rows.fnExactCompileGraphUptoRow.origin Rows.fnExactCompileGraphUptoRow.targs:=of_decide_eq_true (by kernel_rfl)
theorem wrap:Tryz.f7.isWrapper Tryz.prog Rows.fnExactCompileGraphUptoRow.wrapper Rows.fnExactCompileGraphUptoRow.mainSum:=by unfold Func.isWrapper;first|(rw [if_pos (by decide +kernel)];kernel_rfl)|(rw [if_neg (by decide +kernel)];exact ⟨rfl,rfl⟩)
theorem wfText:Rows.fnExactCompileGraphUptoRow.wfByText (Rows.OpenSpec.upto Rows.fnExactCompileGraphSpec)=true:=by kernel_rfl
theorem goes:false=Rows.fnExactCompileGraphUptoRow.goesBy Tryz.prog:=by kernel_rfl
theorem noInit:Tryz.prog.inits.idxOf? 7=none:=by kernel_rfl
theorem p1 : Tryz.prog.funcNamed "loop.example/g01073/laws.FnExactCompileGraph" = some 7 := by kernel_rfl
theorem q0:Tryz.prog.wantsStandIn 3=false:=by kernel_rfl
theorem q1:Tryz.prog.wantsStandIn 42=false:=by kernel_rfl
end Go.Proofs.YtbljmfcifljkaaaGreatDoor.cardCg
