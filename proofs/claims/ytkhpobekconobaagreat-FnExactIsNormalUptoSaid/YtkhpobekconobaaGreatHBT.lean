import Derived.Test.YtkhpobekconobaaGreatRows
import Derived.WalkKit
import Derived.ProofKit
import Derived.JoinedCond
import Derived.KernelRfl
import Derived.Test.YtkhpobekconobaaGreatHZZ
set_option linter.all false
set_option maxRecDepth 100000
set_option maxHeartbeats 0
namespace Go.Proofs.YtkhpobekconobaaGreat
theorem avk:(laidOutB Tryz.prog)=true:=by kernel_rfl
theorem avl:(mapsRowed Tryz.prog)=true:=by kernel_rfl
theorem avm:((Tryz.prog.stops==[]))=true:=by kernel_rfl
theorem avn:((Tryz.prog.stopKnobs==[]))=true:=by kernel_rfl
theorem avo:(Tryz.prog.stopsHeard)=true:=by kernel_rfl
theorem avp:(Tryz.prog.mayEnter)=true:=by kernel_rfl
end Go.Proofs.YtkhpobekconobaaGreat
namespace Go.Proofs.YtkhpobekconobaaGreat.cardNo
open Go.ChangeShapes Go.WideShapes Go.ChangeAt Go.RowKit
theorem j0:(Rows.fnExactIsNormalUptoRow.wf (OpenSpec.ofChange (Rows.OpenSpec.upto Rows.fnExactIsNormalSpec).bare))=true:=by kernel_rfl
theorem j3:(Tryz.f3.params.all (Tryz.prog.readableRec ·))=true:=by kernel_rfl
theorem j4:(namedTie Tryz.prog Rows.fnExactIsNormalUptoRow.named (Rows.OpenSpec.upto Rows.fnExactIsNormalSpec).bare.vars)=true:=by kernel_rfl
theorem j5:((Rows.fnExactIsNormalUptoRow.stops==[]))=true:=by kernel_rfl
theorem j7:((Rows.fnExactIsNormalUptoRow.knobs==[]))=true:=by kernel_rfl
theorem j9:((Rows.fnExactIsNormalUptoRow.inPlace==Tryz.prog.inPlace 3))=true:=by kernel_rfl
theorem j10:((Rows.fnExactIsNormalUptoRow.unfollowed==Tryz.prog.unfollowed 3))=true:=by kernel_rfl
theorem j11:((Rows.fnExactIsNormalUptoRow.recurses==Tryz.prog.recurses 3))=true:=by kernel_rfl
theorem j12:((Rows.fnExactIsNormalUptoRow.named==Tryz.prog.varsNamed 3))=true:=by kernel_rfl
theorem j13:((Rows.fnExactIsNormalUptoRow.maps==(Tryz.f3.params.toList++(Rows.OpenSpec.upto Rows.fnExactIsNormalSpec).bare.plain.varTypes Tryz.prog).any (Tryz.prog.mapsRec ·)))=true:=by kernel_rfl
theorem j14:((Rows.fnExactIsNormalUptoRow.ifaces==(Tryz.f3.params.toList++(Rows.OpenSpec.upto Rows.fnExactIsNormalSpec).bare.plain.varTypes Tryz.prog).any (Tryz.prog.ifacesRec ·)))=true:=by kernel_rfl
theorem j15:((Rows.fnExactIsNormalUptoRow.mapsOut==Tryz.prog.mapsAmong Tryz.f3.resultTypes.toList))=true:=by kernel_rfl
theorem j16:((Rows.fnExactIsNormalUptoRow.loops==(Tryz.f3.params.toList++(Rows.OpenSpec.upto Rows.fnExactIsNormalSpec).bare.plain.varTypes Tryz.prog).any (Tryz.prog.loopsFrom ·)))=true:=by kernel_rfl
theorem j17:((Rows.fnExactIsNormalUptoRow.wideKeys==(Tryz.f3.params.toList++(Rows.OpenSpec.upto Rows.fnExactIsNormalSpec).bare.plain.varTypes Tryz.prog++Tryz.f3.resultTypes.toList).any (Tryz.prog.wideKeysFrom ·)))=true:=by kernel_rfl
theorem j18:((Rows.OpenSpec.upto Rows.fnExactIsNormalSpec).bare.vars.all (Tryz.prog.varReadable ·))=true:=by kernel_rfl
theorem j19:(Tryz.f3.resultTypes.all (λt=>Tryz.prog.readableRec t&&decide (t<Tryz.prog.types.size)))=true:=by kernel_rfl
theorem j20:((Rows.fnExactIsNormalUptoRow.ifacesOut==Tryz.f3.resultTypes.toList.any (Tryz.prog.ifacesRec ·)))=true:=by kernel_rfl
theorem j21:((Rows.fnExactIsNormalUptoRow.loopsOut==Tryz.f3.resultTypes.toList.any (Tryz.prog.loopsFrom ·)))=true:=by kernel_rfl
theorem j22:((Rows.fnExactIsNormalUptoRow.plainKeys==Tryz.prog.plainKeys))=true:=by kernel_rfl
theorem j23:(Rows.fnExactIsNormalUptoRow.shortTexts.isNone)=true:=by kernel_rfl
theorem j26:((Rows.fnExactIsNormalUptoRow.lifted==Tryz.prog.liftsFinal))=true:=by kernel_rfl
theorem j27:((Tryz.prog.make==some Rows.fnExactIsNormalUptoRow.make))=true:=by kernel_rfl
theorem j28:((Rows.fnExactIsNormalUptoRow.kinds==(if Rows.fnExactIsNormalUptoRow.domain.isEmpty then[]else Tryz.f3.params.toList.map λt=>match Tryz.prog.underlying t with|some (.int k)=>some k|_=>none)))=true:=by kernel_rfl
theorem j29:((Rows.fnExactIsNormalUptoRow.pinned==Rows.fnExactIsNormalUptoRow.pinnedBy))=true:=by kernel_rfl
theorem j30:((Rows.fnExactIsNormalUptoRow.veiled==(Tryz.f3.params.toList++(Rows.OpenSpec.upto Rows.fnExactIsNormalSpec).bare.plain.varTypes Tryz.prog++Tryz.f3.resultTypes.toList).any (Tryz.prog.veiledRec ·)))=true:=by kernel_rfl
theorem j31:(Rows.fnExactIsNormalUptoRow.veiledFits Tryz.prog Tryz.f3.params.toList (Tryz.f3.params.toList++(Rows.OpenSpec.upto Rows.fnExactIsNormalSpec).bare.plain.varTypes Tryz.prog++Tryz.f3.resultTypes.toList))=true:=by kernel_rfl
theorem inst:Tryz.f3.isInstance Tryz.prog Rows.fnExactIsNormalUptoRow.origin Rows.fnExactIsNormalUptoRow.targs:=Wv (by kernel_rfl)
theorem wrap:Tryz.f3.isWrapper Tryz.prog Rows.fnExactIsNormalUptoRow.wrapper Rows.fnExactIsNormalUptoRow.mainSum:=by unfold Func.isWrapper;first|(rw[ZE (by decide +kernel)];kernel_rfl)|(rw[ZH (by decide +kernel)];exact⟨rfl,rfl⟩)
theorem noInit:Tryz.prog.inits.idxOf? 3=none:=by kernel_rfl
theorem p1 : Tryz.prog.funcNamed "loop.example/g01073/laws.FnExactIsNormal"=some 3:=by kernel_rfl
end Go.Proofs.YtkhpobekconobaaGreat.cardNo
