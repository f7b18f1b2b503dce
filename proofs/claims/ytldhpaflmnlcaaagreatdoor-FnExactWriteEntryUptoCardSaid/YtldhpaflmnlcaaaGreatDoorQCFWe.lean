/-
  The closed facts of FnExactWriteEntry's row, one theorem each. By a program of my own (card.py).
-/
import Derived.Test.YtldhpaflmnlcaaaGreatDoorQZ
set_option linter.all false
set_option maxRecDepth 100000
set_option maxHeartbeats 8000000
namespace Go.Proofs.YtldhpaflmnlcaaaGreatDoor.cardWe
open Go.ChangeShapes Go.WideShapes Go.ChangeAt Go.RowKit
theorem j0:(Rows.fnExactWriteEntryUptoRow.wf (OpenSpec.ofChange (Rows.OpenSpec.upto Rows.fnExactWriteEntrySpec).bare))=true:=by kernel_rfl
theorem j3:(Tryz.f15.params.all (Tryz.prog.readableRec ·))=true:=by kernel_rfl
theorem j4:(namedTie Tryz.prog Rows.fnExactWriteEntryUptoRow.named (Rows.OpenSpec.upto Rows.fnExactWriteEntrySpec).bare.vars)=true:=by kernel_rfl
theorem j5:((Rows.fnExactWriteEntryUptoRow.stops == []))=true:=by kernel_rfl
theorem j7:((Rows.fnExactWriteEntryUptoRow.knobs == []))=true:=by kernel_rfl
theorem j9:((Rows.fnExactWriteEntryUptoRow.inPlace == Tryz.prog.inPlace 15))=true:=by kernel_rfl
theorem j10:((Rows.fnExactWriteEntryUptoRow.unfollowed == Tryz.prog.unfollowed 15))=true:=by kernel_rfl
theorem j11:((Rows.fnExactWriteEntryUptoRow.recurses == Tryz.prog.recurses 15))=true:=by kernel_rfl
theorem j12:((Rows.fnExactWriteEntryUptoRow.named == Tryz.prog.varsNamed 15))=true:=by kernel_rfl
theorem j13:((Rows.fnExactWriteEntryUptoRow.maps == (Tryz.f15.params.toList ++ (Rows.OpenSpec.upto Rows.fnExactWriteEntrySpec).bare.plain.varTypes Tryz.prog).any (Tryz.prog.mapsRec ·)))=true:=by kernel_rfl
theorem j14:((Rows.fnExactWriteEntryUptoRow.ifaces == (Tryz.f15.params.toList ++ (Rows.OpenSpec.upto Rows.fnExactWriteEntrySpec).bare.plain.varTypes Tryz.prog).any (Tryz.prog.ifacesRec ·)))=true:=by kernel_rfl
theorem j15:((Rows.fnExactWriteEntryUptoRow.mapsOut == Tryz.prog.mapsAmong Tryz.f15.resultTypes.toList))=true:=by kernel_rfl
theorem j16:((Rows.fnExactWriteEntryUptoRow.loops == (Tryz.f15.params.toList ++ (Rows.OpenSpec.upto Rows.fnExactWriteEntrySpec).bare.plain.varTypes Tryz.prog).any (Tryz.prog.loopsFrom ·)))=true:=by kernel_rfl
theorem j17:((Rows.fnExactWriteEntryUptoRow.wideKeys == (Tryz.f15.params.toList ++ (Rows.OpenSpec.upto Rows.fnExactWriteEntrySpec).bare.plain.varTypes Tryz.prog ++ Tryz.f15.resultTypes.toList).any (Tryz.prog.wideKeysFrom ·)))=true:=by kernel_rfl
theorem j18:((Rows.OpenSpec.upto Rows.fnExactWriteEntrySpec).bare.vars.all (Tryz.prog.varReadable ·))=true:=by kernel_rfl
theorem j19:(Tryz.f15.resultTypes.all (fun t=>Tryz.prog.readableRec t && decide (t<Tryz.prog.types.size)))=true:=by kernel_rfl
theorem j20:((Rows.fnExactWriteEntryUptoRow.ifacesOut == Tryz.f15.resultTypes.toList.any (Tryz.prog.ifacesRec ·)))=true:=by kernel_rfl
theorem j21:((Rows.fnExactWriteEntryUptoRow.loopsOut == Tryz.f15.resultTypes.toList.any (Tryz.prog.loopsFrom ·)))=true:=by kernel_rfl
theorem j22:((Rows.fnExactWriteEntryUptoRow.plainKeys == Tryz.prog.plainKeys))=true:=by kernel_rfl
theorem j23:(Rows.fnExactWriteEntryUptoRow.shortTexts.isNone)=true:=by kernel_rfl
theorem j26:((Rows.fnExactWriteEntryUptoRow.lifted == Tryz.prog.liftsFinal))=true:=by kernel_rfl
theorem j27:((Tryz.prog.make == some Rows.fnExactWriteEntryUptoRow.make))=true:=by kernel_rfl
theorem j28:((Rows.fnExactWriteEntryUptoRow.kinds == (if Rows.fnExactWriteEntryUptoRow.domain.isEmpty then [] else Tryz.f15.params.toList.map fun t=>match Tryz.prog.underlying t with|some (.int k)=>some k|_=>none)))=true:=by kernel_rfl
theorem j29:((Rows.fnExactWriteEntryUptoRow.pinned == Rows.fnExactWriteEntryUptoRow.pinnedBy))=true:=by kernel_rfl
theorem j30:((Rows.fnExactWriteEntryUptoRow.veiled == (Tryz.f15.params.toList ++ (Rows.OpenSpec.upto Rows.fnExactWriteEntrySpec).bare.plain.varTypes Tryz.prog ++ Tryz.f15.resultTypes.toList).any (Tryz.prog.veiledRec ·)))=true:=by kernel_rfl
theorem j31:(Rows.fnExactWriteEntryUptoRow.veiledFits Tryz.prog Tryz.f15.params.toList (Tryz.f15.params.toList ++ (Rows.OpenSpec.upto Rows.fnExactWriteEntrySpec).bare.plain.varTypes Tryz.prog ++ Tryz.f15.resultTypes.toList))=true:=by kernel_rfl
theorem inst:Tryz.f15.isInstance Tryz.prog Rows.fnExactWriteEntryUptoRow.origin Rows.fnExactWriteEntryUptoRow.targs:=of_decide_eq_true (by kernel_rfl)
theorem wrap:Tryz.f15.isWrapper Tryz.prog Rows.fnExactWriteEntryUptoRow.wrapper Rows.fnExactWriteEntryUptoRow.mainSum:=by unfold Func.isWrapper;first|(rw [if_pos (by decide +kernel)];kernel_rfl)|(rw [if_neg (by decide +kernel)];exact ⟨rfl,rfl⟩)
theorem wfText:Rows.fnExactWriteEntryUptoRow.wfByText (Rows.OpenSpec.upto Rows.fnExactWriteEntrySpec)=true:=by kernel_rfl
theorem goes:false=Rows.fnExactWriteEntryUptoRow.goesBy Tryz.prog:=by kernel_rfl
theorem noInit:Tryz.prog.inits.idxOf? 15=none:=by kernel_rfl
theorem p1 : Tryz.prog.funcNamed "loop.example/g01073/laws.FnExactWriteEntry" = some 15 := by kernel_rfl
theorem q0:Tryz.prog.wantsStandIn 70=false:=by kernel_rfl
theorem q1:Tryz.prog.wantsStandIn 49=false:=by kernel_rfl
end Go.Proofs.YtldhpaflmnlcaaaGreatDoor.cardWe
