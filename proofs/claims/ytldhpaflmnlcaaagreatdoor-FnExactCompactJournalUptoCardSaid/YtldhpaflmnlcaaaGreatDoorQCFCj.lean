/-
  The closed facts of FnExactCompactJournal's row, one theorem each. By a program of my own (card.py).
-/
import Derived.Test.YtldhpaflmnlcaaaGreatDoorQZ
set_option linter.all false
set_option maxRecDepth 100000
set_option maxHeartbeats 8000000
namespace Go.Proofs.YtldhpaflmnlcaaaGreatDoor.cardCj
open Go.ChangeShapes Go.WideShapes Go.ChangeAt Go.RowKit
theorem j0:(Rows.fnExactCompactJournalUptoRow.wf (OpenSpec.ofChange (Rows.OpenSpec.upto Rows.fnExactCompactJournalSpec).bare))=true:=by kernel_rfl
theorem j3:(Tryz.f12.params.all (Tryz.prog.readableRec ·))=true:=by kernel_rfl
theorem j4:(namedTie Tryz.prog Rows.fnExactCompactJournalUptoRow.named (Rows.OpenSpec.upto Rows.fnExactCompactJournalSpec).bare.vars)=true:=by kernel_rfl
theorem j5:((Rows.fnExactCompactJournalUptoRow.stops == []))=true:=by kernel_rfl
theorem j7:((Rows.fnExactCompactJournalUptoRow.knobs == []))=true:=by kernel_rfl
theorem j9:((Rows.fnExactCompactJournalUptoRow.inPlace == Tryz.prog.inPlace 12))=true:=by kernel_rfl
theorem j10:((Rows.fnExactCompactJournalUptoRow.unfollowed == Tryz.prog.unfollowed 12))=true:=by kernel_rfl
theorem j11:((Rows.fnExactCompactJournalUptoRow.recurses == Tryz.prog.recurses 12))=true:=by kernel_rfl
theorem j12:((Rows.fnExactCompactJournalUptoRow.named == Tryz.prog.varsNamed 12))=true:=by kernel_rfl
theorem j13:((Rows.fnExactCompactJournalUptoRow.maps == (Tryz.f12.params.toList ++ (Rows.OpenSpec.upto Rows.fnExactCompactJournalSpec).bare.plain.varTypes Tryz.prog).any (Tryz.prog.mapsRec ·)))=true:=by kernel_rfl
theorem j14:((Rows.fnExactCompactJournalUptoRow.ifaces == (Tryz.f12.params.toList ++ (Rows.OpenSpec.upto Rows.fnExactCompactJournalSpec).bare.plain.varTypes Tryz.prog).any (Tryz.prog.ifacesRec ·)))=true:=by kernel_rfl
theorem j15:((Rows.fnExactCompactJournalUptoRow.mapsOut == Tryz.prog.mapsAmong Tryz.f12.resultTypes.toList))=true:=by kernel_rfl
theorem j16:((Rows.fnExactCompactJournalUptoRow.loops == (Tryz.f12.params.toList ++ (Rows.OpenSpec.upto Rows.fnExactCompactJournalSpec).bare.plain.varTypes Tryz.prog).any (Tryz.prog.loopsFrom ·)))=true:=by kernel_rfl
theorem j17:((Rows.fnExactCompactJournalUptoRow.wideKeys == (Tryz.f12.params.toList ++ (Rows.OpenSpec.upto Rows.fnExactCompactJournalSpec).bare.plain.varTypes Tryz.prog ++ Tryz.f12.resultTypes.toList).any (Tryz.prog.wideKeysFrom ·)))=true:=by kernel_rfl
theorem j18:((Rows.OpenSpec.upto Rows.fnExactCompactJournalSpec).bare.vars.all (Tryz.prog.varReadable ·))=true:=by kernel_rfl
theorem j19:(Tryz.f12.resultTypes.all (fun t=>Tryz.prog.readableRec t && decide (t<Tryz.prog.types.size)))=true:=by kernel_rfl
theorem j20:((Rows.fnExactCompactJournalUptoRow.ifacesOut == Tryz.f12.resultTypes.toList.any (Tryz.prog.ifacesRec ·)))=true:=by kernel_rfl
theorem j21:((Rows.fnExactCompactJournalUptoRow.loopsOut == Tryz.f12.resultTypes.toList.any (Tryz.prog.loopsFrom ·)))=true:=by kernel_rfl
theorem j22:((Rows.fnExactCompactJournalUptoRow.plainKeys == Tryz.prog.plainKeys))=true:=by kernel_rfl
theorem j23:(Rows.fnExactCompactJournalUptoRow.shortTexts.isNone)=true:=by kernel_rfl
theorem j26:((Rows.fnExactCompactJournalUptoRow.lifted == Tryz.prog.liftsFinal))=true:=by kernel_rfl
theorem j27:((Tryz.prog.make == some Rows.fnExactCompactJournalUptoRow.make))=true:=by kernel_rfl
theorem j28:((Rows.fnExactCompactJournalUptoRow.kinds == (if Rows.fnExactCompactJournalUptoRow.domain.isEmpty then [] else Tryz.f12.params.toList.map fun t=>match Tryz.prog.underlying t with|some (.int k)=>some k|_=>none)))=true:=by kernel_rfl
theorem j29:((Rows.fnExactCompactJournalUptoRow.pinned == Rows.fnExactCompactJournalUptoRow.pinnedBy))=true:=by kernel_rfl
theorem j30:((Rows.fnExactCompactJournalUptoRow.veiled == (Tryz.f12.params.toList ++ (Rows.OpenSpec.upto Rows.fnExactCompactJournalSpec).bare.plain.varTypes Tryz.prog ++ Tryz.f12.resultTypes.toList).any (Tryz.prog.veiledRec ·)))=true:=by kernel_rfl
theorem j31:(Rows.fnExactCompactJournalUptoRow.veiledFits Tryz.prog Tryz.f12.params.toList (Tryz.f12.params.toList ++ (Rows.OpenSpec.upto Rows.fnExactCompactJournalSpec).bare.plain.varTypes Tryz.prog ++ Tryz.f12.resultTypes.toList))=true:=by kernel_rfl
theorem inst:Tryz.f12.isInstance Tryz.prog Rows.fnExactCompactJournalUptoRow.origin Rows.fnExactCompactJournalUptoRow.targs:=of_decide_eq_true (by kernel_rfl)
theorem wrap:Tryz.f12.isWrapper Tryz.prog Rows.fnExactCompactJournalUptoRow.wrapper Rows.fnExactCompactJournalUptoRow.mainSum:=by unfold Func.isWrapper;first|(rw [if_pos (by decide +kernel)];kernel_rfl)|(rw [if_neg (by decide +kernel)];exact ⟨rfl,rfl⟩)
theorem wfText:Rows.fnExactCompactJournalUptoRow.wfByText (Rows.OpenSpec.upto Rows.fnExactCompactJournalSpec)=true:=by kernel_rfl
theorem goes:false=Rows.fnExactCompactJournalUptoRow.goesBy Tryz.prog:=by kernel_rfl
theorem noInit:Tryz.prog.inits.idxOf? 12=none:=by kernel_rfl
theorem p1 : Tryz.prog.funcNamed "loop.example/g01073/laws.FnExactCompactJournal" = some 12 := by kernel_rfl
theorem q0:Tryz.prog.wantsStandIn 9=false:=by kernel_rfl
end Go.Proofs.YtldhpaflmnlcaaaGreatDoor.cardCj
