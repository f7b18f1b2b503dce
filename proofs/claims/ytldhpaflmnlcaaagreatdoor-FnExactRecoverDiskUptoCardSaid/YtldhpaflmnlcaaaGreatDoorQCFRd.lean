/-
  The closed facts of FnExactRecoverDisk's row, one theorem each. By a program of my own (card.py).
-/
import Derived.Test.YtldhpaflmnlcaaaGreatDoorQZ
set_option linter.all false
set_option maxRecDepth 100000
set_option maxHeartbeats 8000000
namespace Go.Proofs.YtldhpaflmnlcaaaGreatDoor.cardRd
open Go.ChangeShapes Go.WideShapes Go.ChangeAt Go.RowKit
theorem j0:(Rows.fnExactRecoverDiskUptoRow.wf (OpenSpec.ofChange (Rows.OpenSpec.upto Rows.fnExactRecoverDiskSpec).bare))=true:=by kernel_rfl
theorem j3:(Tryz.f14.params.all (Tryz.prog.readableRec ·))=true:=by kernel_rfl
theorem j4:(namedTie Tryz.prog Rows.fnExactRecoverDiskUptoRow.named (Rows.OpenSpec.upto Rows.fnExactRecoverDiskSpec).bare.vars)=true:=by kernel_rfl
theorem j5:((Rows.fnExactRecoverDiskUptoRow.stops == []))=true:=by kernel_rfl
theorem j7:((Rows.fnExactRecoverDiskUptoRow.knobs == []))=true:=by kernel_rfl
theorem j9:((Rows.fnExactRecoverDiskUptoRow.inPlace == Tryz.prog.inPlace 14))=true:=by kernel_rfl
theorem j10:((Rows.fnExactRecoverDiskUptoRow.unfollowed == Tryz.prog.unfollowed 14))=true:=by kernel_rfl
theorem j11:((Rows.fnExactRecoverDiskUptoRow.recurses == Tryz.prog.recurses 14))=true:=by kernel_rfl
theorem j12:((Rows.fnExactRecoverDiskUptoRow.named == Tryz.prog.varsNamed 14))=true:=by kernel_rfl
theorem j13:((Rows.fnExactRecoverDiskUptoRow.maps == (Tryz.f14.params.toList ++ (Rows.OpenSpec.upto Rows.fnExactRecoverDiskSpec).bare.plain.varTypes Tryz.prog).any (Tryz.prog.mapsRec ·)))=true:=by kernel_rfl
theorem j14:((Rows.fnExactRecoverDiskUptoRow.ifaces == (Tryz.f14.params.toList ++ (Rows.OpenSpec.upto Rows.fnExactRecoverDiskSpec).bare.plain.varTypes Tryz.prog).any (Tryz.prog.ifacesRec ·)))=true:=by kernel_rfl
theorem j15:((Rows.fnExactRecoverDiskUptoRow.mapsOut == Tryz.prog.mapsAmong Tryz.f14.resultTypes.toList))=true:=by kernel_rfl
theorem j16:((Rows.fnExactRecoverDiskUptoRow.loops == (Tryz.f14.params.toList ++ (Rows.OpenSpec.upto Rows.fnExactRecoverDiskSpec).bare.plain.varTypes Tryz.prog).any (Tryz.prog.loopsFrom ·)))=true:=by kernel_rfl
theorem j17:((Rows.fnExactRecoverDiskUptoRow.wideKeys == (Tryz.f14.params.toList ++ (Rows.OpenSpec.upto Rows.fnExactRecoverDiskSpec).bare.plain.varTypes Tryz.prog ++ Tryz.f14.resultTypes.toList).any (Tryz.prog.wideKeysFrom ·)))=true:=by kernel_rfl
theorem j18:((Rows.OpenSpec.upto Rows.fnExactRecoverDiskSpec).bare.vars.all (Tryz.prog.varReadable ·))=true:=by kernel_rfl
theorem j19:(Tryz.f14.resultTypes.all (fun t=>Tryz.prog.readableRec t && decide (t<Tryz.prog.types.size)))=true:=by kernel_rfl
theorem j20:((Rows.fnExactRecoverDiskUptoRow.ifacesOut == Tryz.f14.resultTypes.toList.any (Tryz.prog.ifacesRec ·)))=true:=by kernel_rfl
theorem j21:((Rows.fnExactRecoverDiskUptoRow.loopsOut == Tryz.f14.resultTypes.toList.any (Tryz.prog.loopsFrom ·)))=true:=by kernel_rfl
theorem j22:((Rows.fnExactRecoverDiskUptoRow.plainKeys == Tryz.prog.plainKeys))=true:=by kernel_rfl
theorem j23:(Rows.fnExactRecoverDiskUptoRow.shortTexts.isNone)=true:=by kernel_rfl
theorem j26:((Rows.fnExactRecoverDiskUptoRow.lifted == Tryz.prog.liftsFinal))=true:=by kernel_rfl
theorem j27:((Tryz.prog.make == some Rows.fnExactRecoverDiskUptoRow.make))=true:=by kernel_rfl
theorem j28:((Rows.fnExactRecoverDiskUptoRow.kinds == (if Rows.fnExactRecoverDiskUptoRow.domain.isEmpty then [] else Tryz.f14.params.toList.map fun t=>match Tryz.prog.underlying t with|some (.int k)=>some k|_=>none)))=true:=by kernel_rfl
theorem j29:((Rows.fnExactRecoverDiskUptoRow.pinned == Rows.fnExactRecoverDiskUptoRow.pinnedBy))=true:=by kernel_rfl
theorem j30:((Rows.fnExactRecoverDiskUptoRow.veiled == (Tryz.f14.params.toList ++ (Rows.OpenSpec.upto Rows.fnExactRecoverDiskSpec).bare.plain.varTypes Tryz.prog ++ Tryz.f14.resultTypes.toList).any (Tryz.prog.veiledRec ·)))=true:=by kernel_rfl
theorem j31:(Rows.fnExactRecoverDiskUptoRow.veiledFits Tryz.prog Tryz.f14.params.toList (Tryz.f14.params.toList ++ (Rows.OpenSpec.upto Rows.fnExactRecoverDiskSpec).bare.plain.varTypes Tryz.prog ++ Tryz.f14.resultTypes.toList))=true:=by kernel_rfl
theorem inst:Tryz.f14.isInstance Tryz.prog Rows.fnExactRecoverDiskUptoRow.origin Rows.fnExactRecoverDiskUptoRow.targs:=of_decide_eq_true (by kernel_rfl)
theorem wrap:Tryz.f14.isWrapper Tryz.prog Rows.fnExactRecoverDiskUptoRow.wrapper Rows.fnExactRecoverDiskUptoRow.mainSum:=by unfold Func.isWrapper;first|(rw [if_pos (by decide +kernel)];kernel_rfl)|(rw [if_neg (by decide +kernel)];exact ⟨rfl,rfl⟩)
theorem wfText:Rows.fnExactRecoverDiskUptoRow.wfByText (Rows.OpenSpec.upto Rows.fnExactRecoverDiskSpec)=true:=by kernel_rfl
theorem goes:false=Rows.fnExactRecoverDiskUptoRow.goesBy Tryz.prog:=by kernel_rfl
theorem noInit:Tryz.prog.inits.idxOf? 14=none:=by kernel_rfl
theorem p1 : Tryz.prog.funcNamed "loop.example/g01073/laws.FnExactRecoverDisk" = some 14 := by kernel_rfl
theorem q0:Tryz.prog.wantsStandIn 70=false:=by kernel_rfl
end Go.Proofs.YtldhpaflmnlcaaaGreatDoor.cardRd
