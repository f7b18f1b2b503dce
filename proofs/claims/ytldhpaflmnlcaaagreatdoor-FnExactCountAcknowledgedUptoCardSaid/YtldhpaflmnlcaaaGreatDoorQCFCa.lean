/-
  The closed facts of FnExactCountAcknowledged's row, one theorem each. By a program of my own (card.py).
-/
import Derived.Test.YtldhpaflmnlcaaaGreatDoorQZ
set_option linter.all false
set_option maxRecDepth 100000
set_option maxHeartbeats 8000000
namespace Go.Proofs.YtldhpaflmnlcaaaGreatDoor.cardCa
open Go.ChangeShapes Go.WideShapes Go.ChangeAt Go.RowKit
theorem j0:(Rows.fnExactCountAcknowledgedUptoRow.wf (OpenSpec.ofChange (Rows.OpenSpec.upto Rows.fnExactCountAcknowledgedSpec).bare))=true:=by kernel_rfl
theorem j3:(Tryz.f11.params.all (Tryz.prog.readableRec ·))=true:=by kernel_rfl
theorem j4:(namedTie Tryz.prog Rows.fnExactCountAcknowledgedUptoRow.named (Rows.OpenSpec.upto Rows.fnExactCountAcknowledgedSpec).bare.vars)=true:=by kernel_rfl
theorem j5:((Rows.fnExactCountAcknowledgedUptoRow.stops == []))=true:=by kernel_rfl
theorem j7:((Rows.fnExactCountAcknowledgedUptoRow.knobs == []))=true:=by kernel_rfl
theorem j9:((Rows.fnExactCountAcknowledgedUptoRow.inPlace == Tryz.prog.inPlace 11))=true:=by kernel_rfl
theorem j10:((Rows.fnExactCountAcknowledgedUptoRow.unfollowed == Tryz.prog.unfollowed 11))=true:=by kernel_rfl
theorem j11:((Rows.fnExactCountAcknowledgedUptoRow.recurses == Tryz.prog.recurses 11))=true:=by kernel_rfl
theorem j12:((Rows.fnExactCountAcknowledgedUptoRow.named == Tryz.prog.varsNamed 11))=true:=by kernel_rfl
theorem j13:((Rows.fnExactCountAcknowledgedUptoRow.maps == (Tryz.f11.params.toList ++ (Rows.OpenSpec.upto Rows.fnExactCountAcknowledgedSpec).bare.plain.varTypes Tryz.prog).any (Tryz.prog.mapsRec ·)))=true:=by kernel_rfl
theorem j14:((Rows.fnExactCountAcknowledgedUptoRow.ifaces == (Tryz.f11.params.toList ++ (Rows.OpenSpec.upto Rows.fnExactCountAcknowledgedSpec).bare.plain.varTypes Tryz.prog).any (Tryz.prog.ifacesRec ·)))=true:=by kernel_rfl
theorem j15:((Rows.fnExactCountAcknowledgedUptoRow.mapsOut == Tryz.prog.mapsAmong Tryz.f11.resultTypes.toList))=true:=by kernel_rfl
theorem j16:((Rows.fnExactCountAcknowledgedUptoRow.loops == (Tryz.f11.params.toList ++ (Rows.OpenSpec.upto Rows.fnExactCountAcknowledgedSpec).bare.plain.varTypes Tryz.prog).any (Tryz.prog.loopsFrom ·)))=true:=by kernel_rfl
theorem j17:((Rows.fnExactCountAcknowledgedUptoRow.wideKeys == (Tryz.f11.params.toList ++ (Rows.OpenSpec.upto Rows.fnExactCountAcknowledgedSpec).bare.plain.varTypes Tryz.prog ++ Tryz.f11.resultTypes.toList).any (Tryz.prog.wideKeysFrom ·)))=true:=by kernel_rfl
theorem j18:((Rows.OpenSpec.upto Rows.fnExactCountAcknowledgedSpec).bare.vars.all (Tryz.prog.varReadable ·))=true:=by kernel_rfl
theorem j19:(Tryz.f11.resultTypes.all (fun t=>Tryz.prog.readableRec t && decide (t<Tryz.prog.types.size)))=true:=by kernel_rfl
theorem j20:((Rows.fnExactCountAcknowledgedUptoRow.ifacesOut == Tryz.f11.resultTypes.toList.any (Tryz.prog.ifacesRec ·)))=true:=by kernel_rfl
theorem j21:((Rows.fnExactCountAcknowledgedUptoRow.loopsOut == Tryz.f11.resultTypes.toList.any (Tryz.prog.loopsFrom ·)))=true:=by kernel_rfl
theorem j22:((Rows.fnExactCountAcknowledgedUptoRow.plainKeys == Tryz.prog.plainKeys))=true:=by kernel_rfl
theorem j23:(Rows.fnExactCountAcknowledgedUptoRow.shortTexts.isNone)=true:=by kernel_rfl
theorem j26:((Rows.fnExactCountAcknowledgedUptoRow.lifted == Tryz.prog.liftsFinal))=true:=by kernel_rfl
theorem j27:((Tryz.prog.make == some Rows.fnExactCountAcknowledgedUptoRow.make))=true:=by kernel_rfl
theorem j28:((Rows.fnExactCountAcknowledgedUptoRow.kinds == (if Rows.fnExactCountAcknowledgedUptoRow.domain.isEmpty then [] else Tryz.f11.params.toList.map fun t=>match Tryz.prog.underlying t with|some (.int k)=>some k|_=>none)))=true:=by kernel_rfl
theorem j29:((Rows.fnExactCountAcknowledgedUptoRow.pinned == Rows.fnExactCountAcknowledgedUptoRow.pinnedBy))=true:=by kernel_rfl
theorem j30:((Rows.fnExactCountAcknowledgedUptoRow.veiled == (Tryz.f11.params.toList ++ (Rows.OpenSpec.upto Rows.fnExactCountAcknowledgedSpec).bare.plain.varTypes Tryz.prog ++ Tryz.f11.resultTypes.toList).any (Tryz.prog.veiledRec ·)))=true:=by kernel_rfl
theorem j31:(Rows.fnExactCountAcknowledgedUptoRow.veiledFits Tryz.prog Tryz.f11.params.toList (Tryz.f11.params.toList ++ (Rows.OpenSpec.upto Rows.fnExactCountAcknowledgedSpec).bare.plain.varTypes Tryz.prog ++ Tryz.f11.resultTypes.toList))=true:=by kernel_rfl
theorem inst:Tryz.f11.isInstance Tryz.prog Rows.fnExactCountAcknowledgedUptoRow.origin Rows.fnExactCountAcknowledgedUptoRow.targs:=of_decide_eq_true (by kernel_rfl)
theorem wrap:Tryz.f11.isWrapper Tryz.prog Rows.fnExactCountAcknowledgedUptoRow.wrapper Rows.fnExactCountAcknowledgedUptoRow.mainSum:=by unfold Func.isWrapper;first|(rw [if_pos (by decide +kernel)];kernel_rfl)|(rw [if_neg (by decide +kernel)];exact ⟨rfl,rfl⟩)
theorem wfText:Rows.fnExactCountAcknowledgedUptoRow.wfByText (Rows.OpenSpec.upto Rows.fnExactCountAcknowledgedSpec)=true:=by kernel_rfl
theorem goes:false=Rows.fnExactCountAcknowledgedUptoRow.goesBy Tryz.prog:=by kernel_rfl
theorem noInit:Tryz.prog.inits.idxOf? 11=none:=by kernel_rfl
theorem p1 : Tryz.prog.funcNamed "loop.example/g01073/laws.FnExactCountAcknowledged" = some 11 := by kernel_rfl
theorem q0:Tryz.prog.wantsStandIn 70=false:=by kernel_rfl
end Go.Proofs.YtldhpaflmnlcaaaGreatDoor.cardCa
