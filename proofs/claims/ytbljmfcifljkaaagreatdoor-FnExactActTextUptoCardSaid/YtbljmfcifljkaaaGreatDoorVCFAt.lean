/-
  The closed facts of FnExactActText's row, one theorem each. By a program of my own (card.py).
-/
import Derived.Test.YtbljmfcifljkaaaGreatDoorVZ
set_option linter.all false
set_option maxRecDepth 100000
set_option maxHeartbeats 8000000
namespace Go.Proofs.YtbljmfcifljkaaaGreatDoor.cardAt
open Go.ChangeShapes Go.WideShapes Go.ChangeAt Go.RowKit
theorem j0:(Rows.fnExactActTextUptoRow.wf (OpenSpec.ofChange (Rows.OpenSpec.upto Rows.fnExactActTextSpec).bare))=true:=by kernel_rfl
theorem j3:(Tryz.f5.params.all (Tryz.prog.readableRec ·))=true:=by kernel_rfl
theorem j4:(namedTie Tryz.prog Rows.fnExactActTextUptoRow.named (Rows.OpenSpec.upto Rows.fnExactActTextSpec).bare.vars)=true:=by kernel_rfl
theorem j5:((Rows.fnExactActTextUptoRow.stops == []))=true:=by kernel_rfl
theorem j7:((Rows.fnExactActTextUptoRow.knobs == []))=true:=by kernel_rfl
theorem j9:((Rows.fnExactActTextUptoRow.inPlace == Tryz.prog.inPlace 5))=true:=by kernel_rfl
theorem j10:((Rows.fnExactActTextUptoRow.unfollowed == Tryz.prog.unfollowed 5))=true:=by kernel_rfl
theorem j11:((Rows.fnExactActTextUptoRow.recurses == Tryz.prog.recurses 5))=true:=by kernel_rfl
theorem j12:((Rows.fnExactActTextUptoRow.named == Tryz.prog.varsNamed 5))=true:=by kernel_rfl
theorem j13:((Rows.fnExactActTextUptoRow.maps == (Tryz.f5.params.toList ++ (Rows.OpenSpec.upto Rows.fnExactActTextSpec).bare.plain.varTypes Tryz.prog).any (Tryz.prog.mapsRec ·)))=true:=by kernel_rfl
theorem j14:((Rows.fnExactActTextUptoRow.ifaces == (Tryz.f5.params.toList ++ (Rows.OpenSpec.upto Rows.fnExactActTextSpec).bare.plain.varTypes Tryz.prog).any (Tryz.prog.ifacesRec ·)))=true:=by kernel_rfl
theorem j15:((Rows.fnExactActTextUptoRow.mapsOut == Tryz.prog.mapsAmong Tryz.f5.resultTypes.toList))=true:=by kernel_rfl
theorem j16:((Rows.fnExactActTextUptoRow.loops == (Tryz.f5.params.toList ++ (Rows.OpenSpec.upto Rows.fnExactActTextSpec).bare.plain.varTypes Tryz.prog).any (Tryz.prog.loopsFrom ·)))=true:=by kernel_rfl
theorem j17:((Rows.fnExactActTextUptoRow.wideKeys == (Tryz.f5.params.toList ++ (Rows.OpenSpec.upto Rows.fnExactActTextSpec).bare.plain.varTypes Tryz.prog ++ Tryz.f5.resultTypes.toList).any (Tryz.prog.wideKeysFrom ·)))=true:=by kernel_rfl
theorem j18:((Rows.OpenSpec.upto Rows.fnExactActTextSpec).bare.vars.all (Tryz.prog.varReadable ·))=true:=by kernel_rfl
theorem j19:(Tryz.f5.resultTypes.all (fun t=>Tryz.prog.readableRec t && decide (t<Tryz.prog.types.size)))=true:=by kernel_rfl
theorem j20:((Rows.fnExactActTextUptoRow.ifacesOut == Tryz.f5.resultTypes.toList.any (Tryz.prog.ifacesRec ·)))=true:=by kernel_rfl
theorem j21:((Rows.fnExactActTextUptoRow.loopsOut == Tryz.f5.resultTypes.toList.any (Tryz.prog.loopsFrom ·)))=true:=by kernel_rfl
theorem j22:((Rows.fnExactActTextUptoRow.plainKeys == Tryz.prog.plainKeys))=true:=by kernel_rfl
theorem j23:(Rows.fnExactActTextUptoRow.shortTexts.isNone)=true:=by kernel_rfl
theorem j26:((Rows.fnExactActTextUptoRow.lifted == Tryz.prog.liftsFinal))=true:=by kernel_rfl
theorem j27:((Tryz.prog.make == some Rows.fnExactActTextUptoRow.make))=true:=by kernel_rfl
theorem j28:((Rows.fnExactActTextUptoRow.kinds == (if Rows.fnExactActTextUptoRow.domain.isEmpty then [] else Tryz.f5.params.toList.map fun t=>match Tryz.prog.underlying t with|some (.int k)=>some k|_=>none)))=true:=by kernel_rfl
theorem j29:((Rows.fnExactActTextUptoRow.pinned == Rows.fnExactActTextUptoRow.pinnedBy))=true:=by kernel_rfl
theorem j30:((Rows.fnExactActTextUptoRow.veiled == (Tryz.f5.params.toList ++ (Rows.OpenSpec.upto Rows.fnExactActTextSpec).bare.plain.varTypes Tryz.prog ++ Tryz.f5.resultTypes.toList).any (Tryz.prog.veiledRec ·)))=true:=by kernel_rfl
theorem j31:(Rows.fnExactActTextUptoRow.veiledFits Tryz.prog Tryz.f5.params.toList (Tryz.f5.params.toList ++ (Rows.OpenSpec.upto Rows.fnExactActTextSpec).bare.plain.varTypes Tryz.prog ++ Tryz.f5.resultTypes.toList))=true:=by kernel_rfl
theorem inst:Tryz.f5.isInstance Tryz.prog Rows.fnExactActTextUptoRow.origin Rows.fnExactActTextUptoRow.targs:=of_decide_eq_true (by kernel_rfl)
theorem wrap:Tryz.f5.isWrapper Tryz.prog Rows.fnExactActTextUptoRow.wrapper Rows.fnExactActTextUptoRow.mainSum:=by unfold Func.isWrapper;first|(rw [if_pos (by decide +kernel)];kernel_rfl)|(rw [if_neg (by decide +kernel)];exact ⟨rfl,rfl⟩)
theorem wfText:Rows.fnExactActTextUptoRow.wfByText (Rows.OpenSpec.upto Rows.fnExactActTextSpec)=true:=by kernel_rfl
theorem goes:false=Rows.fnExactActTextUptoRow.goesBy Tryz.prog:=by kernel_rfl
theorem noInit:Tryz.prog.inits.idxOf? 5=none:=by kernel_rfl
theorem p1 : Tryz.prog.funcNamed "loop.example/g01073/laws.FnExactActText" = some 5 := by kernel_rfl
theorem q0:Tryz.prog.wantsStandIn 44=false:=by kernel_rfl
theorem q1:Tryz.prog.wantsStandIn 46=false:=by kernel_rfl
end Go.Proofs.YtbljmfcifljkaaaGreatDoor.cardAt
