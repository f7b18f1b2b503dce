/-
  The closed facts of FnJournals's row, one theorem each. By a program of my own (card.py).
-/
import Derived.Test.YtikgblkfmpecfaaGreatDoorWZ
set_option linter.all false
set_option maxRecDepth 100000
set_option maxHeartbeats 8000000
namespace Go.Proofs.YtikgblkfmpecfaaGreatDoor.cardJn
open Go.ChangeShapes Go.WideShapes Go.ChangeAt Go.RowKit
theorem j0:(Rows.fnJournalsUptoRow.wf (OpenSpec.ofChange (Rows.OpenSpec.upto Rows.fnJournalsSpec).bare))=true:=by kernel_rfl
theorem j3:(Tryz.f4.params.all (Tryz.prog.readableRec ·))=true:=by kernel_rfl
theorem j4:(namedTie Tryz.prog Rows.fnJournalsUptoRow.named (Rows.OpenSpec.upto Rows.fnJournalsSpec).bare.vars)=true:=by kernel_rfl
theorem j5:((Rows.fnJournalsUptoRow.stops==[]))=true:=by kernel_rfl
theorem j7:((Rows.fnJournalsUptoRow.knobs==[]))=true:=by kernel_rfl
theorem j9:((Rows.fnJournalsUptoRow.inPlace==Tryz.prog.inPlace 4))=true:=by kernel_rfl
theorem j10:((Rows.fnJournalsUptoRow.unfollowed==Tryz.prog.unfollowed 4))=true:=by kernel_rfl
theorem j11:((Rows.fnJournalsUptoRow.recurses==Tryz.prog.recurses 4))=true:=by kernel_rfl
theorem j12:((Rows.fnJournalsUptoRow.named==Tryz.prog.varsNamed 4))=true:=by kernel_rfl
theorem j13:((Rows.fnJournalsUptoRow.maps==(Tryz.f4.params.toList++(Rows.OpenSpec.upto Rows.fnJournalsSpec).bare.plain.varTypes Tryz.prog).any (Tryz.prog.mapsRec ·)))=true:=by kernel_rfl
theorem j14:((Rows.fnJournalsUptoRow.ifaces==(Tryz.f4.params.toList++(Rows.OpenSpec.upto Rows.fnJournalsSpec).bare.plain.varTypes Tryz.prog).any (Tryz.prog.ifacesRec ·)))=true:=by kernel_rfl
theorem j15:((Rows.fnJournalsUptoRow.mapsOut==Tryz.prog.mapsAmong Tryz.f4.resultTypes.toList))=true:=by kernel_rfl
theorem j16:((Rows.fnJournalsUptoRow.loops==(Tryz.f4.params.toList++(Rows.OpenSpec.upto Rows.fnJournalsSpec).bare.plain.varTypes Tryz.prog).any (Tryz.prog.loopsFrom ·)))=true:=by kernel_rfl
theorem j17:((Rows.fnJournalsUptoRow.wideKeys==(Tryz.f4.params.toList++(Rows.OpenSpec.upto Rows.fnJournalsSpec).bare.plain.varTypes Tryz.prog++Tryz.f4.resultTypes.toList).any (Tryz.prog.wideKeysFrom ·)))=true:=by kernel_rfl
theorem j18:((Rows.OpenSpec.upto Rows.fnJournalsSpec).bare.vars.all (Tryz.prog.varReadable ·))=true:=by kernel_rfl
theorem j19:(Tryz.f4.resultTypes.all (λt=>Tryz.prog.readableRec t&&decide (t<Tryz.prog.types.size)))=true:=by kernel_rfl
theorem j20:((Rows.fnJournalsUptoRow.ifacesOut==Tryz.f4.resultTypes.toList.any (Tryz.prog.ifacesRec ·)))=true:=by kernel_rfl
theorem j21:((Rows.fnJournalsUptoRow.loopsOut==Tryz.f4.resultTypes.toList.any (Tryz.prog.loopsFrom ·)))=true:=by kernel_rfl
theorem j22:((Rows.fnJournalsUptoRow.plainKeys==Tryz.prog.plainKeys))=true:=by kernel_rfl
theorem j23:(Rows.fnJournalsUptoRow.shortTexts.isNone)=true:=by kernel_rfl
theorem j26:((Rows.fnJournalsUptoRow.lifted==Tryz.prog.liftsFinal))=true:=by kernel_rfl
theorem j27:((Tryz.prog.make==some Rows.fnJournalsUptoRow.make))=true:=by kernel_rfl
theorem j28:((Rows.fnJournalsUptoRow.kinds==(if Rows.fnJournalsUptoRow.domain.isEmpty then[]else Tryz.f4.params.toList.map λt=>match Tryz.prog.underlying t with|some (.int k)=>some k|_=>none)))=true:=by kernel_rfl
theorem j29:((Rows.fnJournalsUptoRow.pinned==Rows.fnJournalsUptoRow.pinnedBy))=true:=by kernel_rfl
theorem j30:((Rows.fnJournalsUptoRow.veiled==(Tryz.f4.params.toList++(Rows.OpenSpec.upto Rows.fnJournalsSpec).bare.plain.varTypes Tryz.prog++Tryz.f4.resultTypes.toList).any (Tryz.prog.veiledRec ·)))=true:=by kernel_rfl
theorem j31:(Rows.fnJournalsUptoRow.veiledFits Tryz.prog Tryz.f4.params.toList (Tryz.f4.params.toList++(Rows.OpenSpec.upto Rows.fnJournalsSpec).bare.plain.varTypes Tryz.prog++Tryz.f4.resultTypes.toList))=true:=by kernel_rfl
theorem inst:Tryz.f4.isInstance Tryz.prog Rows.fnJournalsUptoRow.origin Rows.fnJournalsUptoRow.targs:=of_decide_eq_true (by kernel_rfl)
theorem wrap:Tryz.f4.isWrapper Tryz.prog Rows.fnJournalsUptoRow.wrapper Rows.fnJournalsUptoRow.mainSum:=by unfold Func.isWrapper;first|(rw[if_pos (by decide +kernel)];kernel_rfl)|(rw[if_neg (by decide +kernel)];exact⟨rfl,rfl⟩)
theorem Ot:Rows.fnJournalsUptoRow.wfByText (Rows.OpenSpec.upto Rows.fnJournalsSpec)=true:=by kernel_rfl
theorem goes:false=Rows.fnJournalsUptoRow.goesBy Tryz.prog:=by kernel_rfl
theorem noInit:Tryz.prog.inits.idxOf? 4=none:=by kernel_rfl
theorem p1 : Tryz.prog.funcNamed "loop.example/g01073/laws.FnJournals"=some 4:=by kernel_rfl
theorem q0:Tryz.prog.wantsStandIn 22=false:=by kernel_rfl
theorem q1:Tryz.prog.wantsStandIn 22=false:=by kernel_rfl
end Go.Proofs.YtikgblkfmpecfaaGreatDoor.cardJn
