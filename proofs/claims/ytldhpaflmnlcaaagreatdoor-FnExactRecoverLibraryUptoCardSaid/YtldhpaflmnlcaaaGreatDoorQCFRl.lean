/-
  The closed facts of FnExactRecoverLibrary's row, one theorem each. By a program of my own (card.py).
-/
import Derived.Test.YtldhpaflmnlcaaaGreatDoorQZ
set_option linter.all false
set_option maxRecDepth 100000
set_option maxHeartbeats 8000000
namespace Go.Proofs.YtldhpaflmnlcaaaGreatDoor.cardRl
open Go.ChangeShapes Go.WideShapes Go.ChangeAt Go.RowKit
theorem j0:(Rows.fnExactRecoverLibraryUptoRow.wf (OpenSpec.ofChange (Rows.OpenSpec.upto Rows.fnExactRecoverLibrarySpec).bare))=true:=by kernel_rfl
theorem j3:(Tryz.f13.params.all (Tryz.prog.readableRec ·))=true:=by kernel_rfl
theorem j4:(namedTie Tryz.prog Rows.fnExactRecoverLibraryUptoRow.named (Rows.OpenSpec.upto Rows.fnExactRecoverLibrarySpec).bare.vars)=true:=by kernel_rfl
theorem j5:((Rows.fnExactRecoverLibraryUptoRow.stops == []))=true:=by kernel_rfl
theorem j7:((Rows.fnExactRecoverLibraryUptoRow.knobs == []))=true:=by kernel_rfl
theorem j9:((Rows.fnExactRecoverLibraryUptoRow.inPlace == Tryz.prog.inPlace 13))=true:=by kernel_rfl
theorem j10:((Rows.fnExactRecoverLibraryUptoRow.unfollowed == Tryz.prog.unfollowed 13))=true:=by kernel_rfl
theorem j11:((Rows.fnExactRecoverLibraryUptoRow.recurses == Tryz.prog.recurses 13))=true:=by kernel_rfl
theorem j12:((Rows.fnExactRecoverLibraryUptoRow.named == Tryz.prog.varsNamed 13))=true:=by kernel_rfl
theorem j13:((Rows.fnExactRecoverLibraryUptoRow.maps == (Tryz.f13.params.toList ++ (Rows.OpenSpec.upto Rows.fnExactRecoverLibrarySpec).bare.plain.varTypes Tryz.prog).any (Tryz.prog.mapsRec ·)))=true:=by kernel_rfl
theorem j14:((Rows.fnExactRecoverLibraryUptoRow.ifaces == (Tryz.f13.params.toList ++ (Rows.OpenSpec.upto Rows.fnExactRecoverLibrarySpec).bare.plain.varTypes Tryz.prog).any (Tryz.prog.ifacesRec ·)))=true:=by kernel_rfl
theorem j15:((Rows.fnExactRecoverLibraryUptoRow.mapsOut == Tryz.prog.mapsAmong Tryz.f13.resultTypes.toList))=true:=by kernel_rfl
theorem j16:((Rows.fnExactRecoverLibraryUptoRow.loops == (Tryz.f13.params.toList ++ (Rows.OpenSpec.upto Rows.fnExactRecoverLibrarySpec).bare.plain.varTypes Tryz.prog).any (Tryz.prog.loopsFrom ·)))=true:=by kernel_rfl
theorem j17:((Rows.fnExactRecoverLibraryUptoRow.wideKeys == (Tryz.f13.params.toList ++ (Rows.OpenSpec.upto Rows.fnExactRecoverLibrarySpec).bare.plain.varTypes Tryz.prog ++ Tryz.f13.resultTypes.toList).any (Tryz.prog.wideKeysFrom ·)))=true:=by kernel_rfl
theorem j18:((Rows.OpenSpec.upto Rows.fnExactRecoverLibrarySpec).bare.vars.all (Tryz.prog.varReadable ·))=true:=by kernel_rfl
theorem j19:(Tryz.f13.resultTypes.all (fun t=>Tryz.prog.readableRec t && decide (t<Tryz.prog.types.size)))=true:=by kernel_rfl
theorem j20:((Rows.fnExactRecoverLibraryUptoRow.ifacesOut == Tryz.f13.resultTypes.toList.any (Tryz.prog.ifacesRec ·)))=true:=by kernel_rfl
theorem j21:((Rows.fnExactRecoverLibraryUptoRow.loopsOut == Tryz.f13.resultTypes.toList.any (Tryz.prog.loopsFrom ·)))=true:=by kernel_rfl
theorem j22:((Rows.fnExactRecoverLibraryUptoRow.plainKeys == Tryz.prog.plainKeys))=true:=by kernel_rfl
theorem j23:(Rows.fnExactRecoverLibraryUptoRow.shortTexts.isNone)=true:=by kernel_rfl
theorem j26:((Rows.fnExactRecoverLibraryUptoRow.lifted == Tryz.prog.liftsFinal))=true:=by kernel_rfl
theorem j27:((Tryz.prog.make == some Rows.fnExactRecoverLibraryUptoRow.make))=true:=by kernel_rfl
theorem j28:((Rows.fnExactRecoverLibraryUptoRow.kinds == (if Rows.fnExactRecoverLibraryUptoRow.domain.isEmpty then [] else Tryz.f13.params.toList.map fun t=>match Tryz.prog.underlying t with|some (.int k)=>some k|_=>none)))=true:=by kernel_rfl
theorem j29:((Rows.fnExactRecoverLibraryUptoRow.pinned == Rows.fnExactRecoverLibraryUptoRow.pinnedBy))=true:=by kernel_rfl
theorem j30:((Rows.fnExactRecoverLibraryUptoRow.veiled == (Tryz.f13.params.toList ++ (Rows.OpenSpec.upto Rows.fnExactRecoverLibrarySpec).bare.plain.varTypes Tryz.prog ++ Tryz.f13.resultTypes.toList).any (Tryz.prog.veiledRec ·)))=true:=by kernel_rfl
theorem j31:(Rows.fnExactRecoverLibraryUptoRow.veiledFits Tryz.prog Tryz.f13.params.toList (Tryz.f13.params.toList ++ (Rows.OpenSpec.upto Rows.fnExactRecoverLibrarySpec).bare.plain.varTypes Tryz.prog ++ Tryz.f13.resultTypes.toList))=true:=by kernel_rfl
theorem inst:Tryz.f13.isInstance Tryz.prog Rows.fnExactRecoverLibraryUptoRow.origin Rows.fnExactRecoverLibraryUptoRow.targs:=of_decide_eq_true (by kernel_rfl)
theorem wrap:Tryz.f13.isWrapper Tryz.prog Rows.fnExactRecoverLibraryUptoRow.wrapper Rows.fnExactRecoverLibraryUptoRow.mainSum:=by unfold Func.isWrapper;first|(rw [if_pos (by decide +kernel)];kernel_rfl)|(rw [if_neg (by decide +kernel)];exact ⟨rfl,rfl⟩)
theorem wfText:Rows.fnExactRecoverLibraryUptoRow.wfByText (Rows.OpenSpec.upto Rows.fnExactRecoverLibrarySpec)=true:=by kernel_rfl
theorem goes:false=Rows.fnExactRecoverLibraryUptoRow.goesBy Tryz.prog:=by kernel_rfl
theorem noInit:Tryz.prog.inits.idxOf? 13=none:=by kernel_rfl
theorem p1 : Tryz.prog.funcNamed "loop.example/g01073/laws.FnExactRecoverLibrary" = some 13 := by kernel_rfl
theorem q0:Tryz.prog.wantsStandIn 9=false:=by kernel_rfl
end Go.Proofs.YtldhpaflmnlcaaaGreatDoor.cardRl
