/-
  The closed facts of FnExactAxiomsOf's row, one theorem each. By a program of my own (card.py).
-/
import Derived.Test.YtbljmfcifljkaaaGreatDoorKZ
set_option linter.all false
set_option maxRecDepth 100000
set_option maxHeartbeats 8000000
namespace Go.Proofs.YtbljmfcifljkaaaGreatDoor.cardAx
open Go.ChangeShapes Go.WideShapes Go.ChangeAt Go.RowKit
theorem j0:(Rows.fnExactAxiomsOfUptoRow.wf (OpenSpec.ofChange (Rows.OpenSpec.upto Rows.fnExactAxiomsOfSpec).bare))=true:=by kernel_rfl
theorem j3:(Tryz.f3.params.all (Tryz.prog.readableRec ·))=true:=by kernel_rfl
theorem j4:(namedTie Tryz.prog Rows.fnExactAxiomsOfUptoRow.named (Rows.OpenSpec.upto Rows.fnExactAxiomsOfSpec).bare.vars)=true:=by kernel_rfl
theorem j5:((Rows.fnExactAxiomsOfUptoRow.stops==[]))=true:=by kernel_rfl
theorem j7:((Rows.fnExactAxiomsOfUptoRow.knobs==[]))=true:=by kernel_rfl
theorem j9:((Rows.fnExactAxiomsOfUptoRow.inPlace==Tryz.prog.inPlace 3))=true:=by kernel_rfl
theorem j10:((Rows.fnExactAxiomsOfUptoRow.unfollowed==Tryz.prog.unfollowed 3))=true:=by kernel_rfl
theorem j11:((Rows.fnExactAxiomsOfUptoRow.recurses==Tryz.prog.recurses 3))=true:=by kernel_rfl
theorem j12:((Rows.fnExactAxiomsOfUptoRow.named==Tryz.prog.varsNamed 3))=true:=by kernel_rfl
theorem j13:((Rows.fnExactAxiomsOfUptoRow.maps==(Tryz.f3.params.toList++(Rows.OpenSpec.upto Rows.fnExactAxiomsOfSpec).bare.plain.varTypes Tryz.prog).any (Tryz.prog.mapsRec ·)))=true:=by kernel_rfl
theorem j14:((Rows.fnExactAxiomsOfUptoRow.ifaces==(Tryz.f3.params.toList++(Rows.OpenSpec.upto Rows.fnExactAxiomsOfSpec).bare.plain.varTypes Tryz.prog).any (Tryz.prog.ifacesRec ·)))=true:=by kernel_rfl
theorem j15:((Rows.fnExactAxiomsOfUptoRow.mapsOut==Tryz.prog.mapsAmong Tryz.f3.resultTypes.toList))=true:=by kernel_rfl
theorem j16:((Rows.fnExactAxiomsOfUptoRow.loops==(Tryz.f3.params.toList++(Rows.OpenSpec.upto Rows.fnExactAxiomsOfSpec).bare.plain.varTypes Tryz.prog).any (Tryz.prog.loopsFrom ·)))=true:=by kernel_rfl
theorem j17:((Rows.fnExactAxiomsOfUptoRow.wideKeys==(Tryz.f3.params.toList++(Rows.OpenSpec.upto Rows.fnExactAxiomsOfSpec).bare.plain.varTypes Tryz.prog++Tryz.f3.resultTypes.toList).any (Tryz.prog.wideKeysFrom ·)))=true:=by kernel_rfl
theorem j18:((Rows.OpenSpec.upto Rows.fnExactAxiomsOfSpec).bare.vars.all (Tryz.prog.varReadable ·))=true:=by kernel_rfl
theorem j19:(Tryz.f3.resultTypes.all (fun t=>Tryz.prog.readableRec t&&decide (t<Tryz.prog.types.size)))=true:=by kernel_rfl
theorem j20:((Rows.fnExactAxiomsOfUptoRow.ifacesOut==Tryz.f3.resultTypes.toList.any (Tryz.prog.ifacesRec ·)))=true:=by kernel_rfl
theorem j21:((Rows.fnExactAxiomsOfUptoRow.loopsOut==Tryz.f3.resultTypes.toList.any (Tryz.prog.loopsFrom ·)))=true:=by kernel_rfl
theorem j22:((Rows.fnExactAxiomsOfUptoRow.plainKeys==Tryz.prog.plainKeys))=true:=by kernel_rfl
theorem j23:(Rows.fnExactAxiomsOfUptoRow.shortTexts.isNone)=true:=by kernel_rfl
theorem j26:((Rows.fnExactAxiomsOfUptoRow.lifted==Tryz.prog.liftsFinal))=true:=by kernel_rfl
theorem j27:((Tryz.prog.make==some Rows.fnExactAxiomsOfUptoRow.make))=true:=by kernel_rfl
theorem j28:((Rows.fnExactAxiomsOfUptoRow.kinds==(if Rows.fnExactAxiomsOfUptoRow.domain.isEmpty then[]else Tryz.f3.params.toList.map fun t=>match Tryz.prog.underlying t with|some (.int k)=>some k|_=>none)))=true:=by kernel_rfl
theorem j29:((Rows.fnExactAxiomsOfUptoRow.pinned==Rows.fnExactAxiomsOfUptoRow.pinnedBy))=true:=by kernel_rfl
theorem j30:((Rows.fnExactAxiomsOfUptoRow.veiled==(Tryz.f3.params.toList++(Rows.OpenSpec.upto Rows.fnExactAxiomsOfSpec).bare.plain.varTypes Tryz.prog++Tryz.f3.resultTypes.toList).any (Tryz.prog.veiledRec ·)))=true:=by kernel_rfl
theorem j31:(Rows.fnExactAxiomsOfUptoRow.veiledFits Tryz.prog Tryz.f3.params.toList (Tryz.f3.params.toList++(Rows.OpenSpec.upto Rows.fnExactAxiomsOfSpec).bare.plain.varTypes Tryz.prog++Tryz.f3.resultTypes.toList))=true:=by kernel_rfl
theorem inst:Tryz.f3.isInstance Tryz.prog Rows.fnExactAxiomsOfUptoRow.origin Rows.fnExactAxiomsOfUptoRow.targs:=of_decide_eq_true (by kernel_rfl)
theorem wrap:Tryz.f3.isWrapper Tryz.prog Rows.fnExactAxiomsOfUptoRow.wrapper Rows.fnExactAxiomsOfUptoRow.mainSum:=by unfold Func.isWrapper;first|(rw[if_pos (by decide +kernel)];kernel_rfl)|(rw[if_neg (by decide +kernel)];exact⟨rfl,rfl⟩)
theorem wfText:Rows.fnExactAxiomsOfUptoRow.wfByText (Rows.OpenSpec.upto Rows.fnExactAxiomsOfSpec)=true:=by kernel_rfl
theorem goes:false=Rows.fnExactAxiomsOfUptoRow.goesBy Tryz.prog:=by kernel_rfl
theorem noInit:Tryz.prog.inits.idxOf? 3=none:=by kernel_rfl
theorem p1 : Tryz.prog.funcNamed "loop.example/g01073/laws.FnExactAxiomsOf"=some 3:=by kernel_rfl
theorem q0:Tryz.prog.wantsStandIn 3=false:=by kernel_rfl
theorem q1:Tryz.prog.wantsStandIn 3=false:=by kernel_rfl
theorem q2:Tryz.prog.wantsStandIn 3=false:=by kernel_rfl
end Go.Proofs.YtbljmfcifljkaaaGreatDoor.cardAx
