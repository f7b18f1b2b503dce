/-
  The closed facts of FnCrashes's row, one theorem each. By a program of my own (card.py).
-/
import Derived.Test.YtikgblkfmpecfaaGreatDoorWZ
set_option linter.all false
set_option maxRecDepth 100000
set_option maxHeartbeats 8000000
namespace Go.Proofs.YtikgblkfmpecfaaGreatDoor.cardCr
open Go.ChangeShapes Go.WideShapes Go.ChangeAt Go.RowKit
theorem j0:(Rows.fnCrashesUptoRow.wf (OpenSpec.ofChange (Rows.OpenSpec.upto Rows.fnCrashesSpec).bare))=true:=by kernel_rfl
theorem j3:(Tryz.f5.params.all (Tryz.prog.readableRec ·))=true:=by kernel_rfl
theorem j4:(namedTie Tryz.prog Rows.fnCrashesUptoRow.named (Rows.OpenSpec.upto Rows.fnCrashesSpec).bare.vars)=true:=by kernel_rfl
theorem j5:((Rows.fnCrashesUptoRow.stops==[]))=true:=by kernel_rfl
theorem j7:((Rows.fnCrashesUptoRow.knobs==[]))=true:=by kernel_rfl
theorem j9:((Rows.fnCrashesUptoRow.inPlace==Tryz.prog.inPlace 5))=true:=by kernel_rfl
theorem j10:((Rows.fnCrashesUptoRow.unfollowed==Tryz.prog.unfollowed 5))=true:=by kernel_rfl
theorem j11:((Rows.fnCrashesUptoRow.recurses==Tryz.prog.recurses 5))=true:=by kernel_rfl
theorem j12:((Rows.fnCrashesUptoRow.named==Tryz.prog.varsNamed 5))=true:=by kernel_rfl
theorem j13:((Rows.fnCrashesUptoRow.maps==(Tryz.f5.params.toList++(Rows.OpenSpec.upto Rows.fnCrashesSpec).bare.plain.varTypes Tryz.prog).any (Tryz.prog.mapsRec ·)))=true:=by kernel_rfl
theorem j14:((Rows.fnCrashesUptoRow.ifaces==(Tryz.f5.params.toList++(Rows.OpenSpec.upto Rows.fnCrashesSpec).bare.plain.varTypes Tryz.prog).any (Tryz.prog.ifacesRec ·)))=true:=by kernel_rfl
theorem j15:((Rows.fnCrashesUptoRow.mapsOut==Tryz.prog.mapsAmong Tryz.f5.resultTypes.toList))=true:=by kernel_rfl
theorem j16:((Rows.fnCrashesUptoRow.loops==(Tryz.f5.params.toList++(Rows.OpenSpec.upto Rows.fnCrashesSpec).bare.plain.varTypes Tryz.prog).any (Tryz.prog.loopsFrom ·)))=true:=by kernel_rfl
theorem j17:((Rows.fnCrashesUptoRow.wideKeys==(Tryz.f5.params.toList++(Rows.OpenSpec.upto Rows.fnCrashesSpec).bare.plain.varTypes Tryz.prog++Tryz.f5.resultTypes.toList).any (Tryz.prog.wideKeysFrom ·)))=true:=by kernel_rfl
theorem j18:((Rows.OpenSpec.upto Rows.fnCrashesSpec).bare.vars.all (Tryz.prog.varReadable ·))=true:=by kernel_rfl
theorem j19:(Tryz.f5.resultTypes.all (λt=>Tryz.prog.readableRec t&&decide (t<Tryz.prog.types.size)))=true:=by kernel_rfl
theorem j20:((Rows.fnCrashesUptoRow.ifacesOut==Tryz.f5.resultTypes.toList.any (Tryz.prog.ifacesRec ·)))=true:=by kernel_rfl
theorem j21:((Rows.fnCrashesUptoRow.loopsOut==Tryz.f5.resultTypes.toList.any (Tryz.prog.loopsFrom ·)))=true:=by kernel_rfl
theorem j22:((Rows.fnCrashesUptoRow.plainKeys==Tryz.prog.plainKeys))=true:=by kernel_rfl
theorem j23:(Rows.fnCrashesUptoRow.shortTexts.isNone)=true:=by kernel_rfl
theorem j26:((Rows.fnCrashesUptoRow.lifted==Tryz.prog.liftsFinal))=true:=by kernel_rfl
theorem j27:((Tryz.prog.make==some Rows.fnCrashesUptoRow.make))=true:=by kernel_rfl
theorem j28:((Rows.fnCrashesUptoRow.kinds==(if Rows.fnCrashesUptoRow.domain.isEmpty then[]else Tryz.f5.params.toList.map λt=>match Tryz.prog.underlying t with|some (.int k)=>some k|_=>none)))=true:=by kernel_rfl
theorem j29:((Rows.fnCrashesUptoRow.pinned==Rows.fnCrashesUptoRow.pinnedBy))=true:=by kernel_rfl
theorem j30:((Rows.fnCrashesUptoRow.veiled==(Tryz.f5.params.toList++(Rows.OpenSpec.upto Rows.fnCrashesSpec).bare.plain.varTypes Tryz.prog++Tryz.f5.resultTypes.toList).any (Tryz.prog.veiledRec ·)))=true:=by kernel_rfl
theorem j31:(Rows.fnCrashesUptoRow.veiledFits Tryz.prog Tryz.f5.params.toList (Tryz.f5.params.toList++(Rows.OpenSpec.upto Rows.fnCrashesSpec).bare.plain.varTypes Tryz.prog++Tryz.f5.resultTypes.toList))=true:=by kernel_rfl
theorem inst:Tryz.f5.isInstance Tryz.prog Rows.fnCrashesUptoRow.origin Rows.fnCrashesUptoRow.targs:=of_decide_eq_true (by kernel_rfl)
theorem wrap:Tryz.f5.isWrapper Tryz.prog Rows.fnCrashesUptoRow.wrapper Rows.fnCrashesUptoRow.mainSum:=by unfold Func.isWrapper;first|(rw[if_pos (by decide +kernel)];kernel_rfl)|(rw[if_neg (by decide +kernel)];exact⟨rfl,rfl⟩)
theorem Ot:Rows.fnCrashesUptoRow.wfByText (Rows.OpenSpec.upto Rows.fnCrashesSpec)=true:=by kernel_rfl
theorem goes:false=Rows.fnCrashesUptoRow.goesBy Tryz.prog:=by kernel_rfl
theorem noInit:Tryz.prog.inits.idxOf? 5=none:=by kernel_rfl
theorem p1 : Tryz.prog.funcNamed "loop.example/g01073/laws.FnCrashes"=some 5:=by kernel_rfl
theorem q0:Tryz.prog.wantsStandIn 22=false:=by kernel_rfl
theorem q1:Tryz.prog.wantsStandIn 22=false:=by kernel_rfl
end Go.Proofs.YtikgblkfmpecfaaGreatDoor.cardCr
