/-
  What every card of this seat shares: the arguments' read-back where nothing old was turned. Own work, in the frame of the seat's UptoLaidToy.lean.
-/
import Derived.Test.YtbljmfcifljkaaaGreatDoorRows
import Derived.WalkKit
import Derived.ProofKit
import Derived.OpenShut
import Derived.ReadAgain
import Derived.KernelRfl
import Derived.Test.YtbljmfcifljkaaaGreatDoorCards
import Derived.Test.YtbljmfcifljkaaaGreatDoorTie
import Derived.Deep.DeepHandedRow
import Derived.Deep.DeepWitnessRowRef
set_option linter.all false
set_option maxRecDepth 100000
set_option maxHeartbeats 8000000
namespace Go.Proofs.YtbljmfcifljkaaaGreatDoor
open Go.ChangeShapes Go.WideShapes Go.ChangeAt Go.RowKit
theorem own:ownKnob Tryz.prog.godebug=none:=by kernel_rfl
theorem kids:Kids Tryz.prog (·<Tryz.prog.types.size):=kids_rows (by kernel_rfl) (by kernel_rfl)
theorem full:∀ t e,t<Tryz.prog.types.size → Tryz.prog.underlying t=some (.slice e) → 0<Tryz.prog.cellsOf e:=slices_full_of Tryz.prog (by kernel_rfl)
theorem sameAt_of_below {W W':World} (h:Below W.heap.size W W') {p:MemPlace} (hp:p.block<W.heap.size):W.sameAt W' p:=by
 cases p with
 | cell b o=>exact h.cell (p:=⟨b,o,none⟩) hp
 | map b=>exact h.block b hp
theorem carryAll {H:Type} {enc:TypeId × Value → H} {P:Program} {W W':World} {base:Nat} {spare:Nat → Bool} {held:Bool}:∀ {ts:List TypeId} {vs:List Value} {ds:List (DataW H)} {ps:List MemPlace},
  DataW.TrodAll enc P W base spare held ts vs ds ps → (∀ p ∈ ps,W.sameAt W' p) → DataW.TrodAll enc P W' base spare held ts vs ds ps
 | [],[],[],_,h,_=>h
 | _ :: _,_ :: _,_ :: _,_,⟨p,q,⟨n,h1⟩,h2,e⟩,hs =>
  ⟨p,q,⟨n,DataW.trod_carry n _ _ _ h1 (fun x hx=>hs x (by rw [e];exact List.mem_append_left _ hx))⟩,carryAll h2 (fun x hx=>hs x (by rw [e];exact List.mem_append_right _ hx)),e⟩
theorem post_below {H:Type} {enc:TypeId × Value → H} {P:Program} {f:Func} {s:ChangeSpec} {apart fresh handsOn again:Bool} {W W':World} {args:Array Value} {v:Value} {ds gs:List (DataW H)} {before pa pv:List MemPlace}
  (hW:DataW.Whole enc P f.params.toList s.vars apart W args.toList ds gs before)
  (hres:∀ (b:Nat) (sp:Nat → Bool) (hd:Bool),DataW.TrodAll enc P W' b sp hd f.resultTypes.toList (v.resultList f.resultTypes.size) (s.fn H (ds ++ gs)).results [])
  (hargs:∀ sp:Nat → Bool,(∀ p ∈ before,sp p.block=true) → DataW.TrodAll enc P W' 0 sp true f.params.toList args.toList (s.fn H (ds ++ gs)).args pa)
  (hvars:∀ sp:Nat → Bool,(∀ p ∈ before,sp p.block=true) → DataW.TrodVars enc P W' sp s.vars (s.fn H (ds ++ gs)).vars pv)
  (hps:before=pa ++ pv) (hg:Below W.heap.size W W')
  (hok:∀ (j:Nat) (t:TypeId) (r:Value),f.resultTypes[j]?=some t → (v.resultList f.resultTypes.size)[j]?=some r → Value.okWide P W' .any 0 t r) :
  s.post enc P f apart fresh handsOn again W args v W':=by
 have hold:∀ p ∈ before,(fun b=>decide (b<W.heap.size)) p.block=true:=fun p hp=>by simpa using hW.lt p hp
 have hwl:=hW.lt
 refine ⟨ds,gs,before,[],pa,pv,hW,hres _ _ _,hargs _ hold,hvars _ hold,World.keptBut_mono (fun p hp=>⟨hp,?_⟩) (hg.frame _),fun _=>?_⟩
 ·rw [hps,List.mem_append] at hp
  exact Or.inr hp
 ·obtain ⟨_,_,_,_,_,hz,hn⟩:=hW
  refine ⟨hok,_,_,([] ++ pa) ++ pv,⟨[] ++ pa,pv,trodAll_append (hargs _ (fun _ _=>rfl)) (hres _ _ _),hvars _ (fun _ _=>rfl),rfl,?_,?_⟩,?_⟩
  ·intro b off hp
   have hp':MemPlace.cell b off ∈ before:=by rw [hps];simpa using hp
   rw [hg.frozen (hwl _ hp')]
   exact hz b off hp'
  ·intro ha
   have:=hn ha
   rw [hps] at this
   simpa using this
  ·intro p hp _
   rw [hps]
   simpa using hp
end Go.Proofs.YtbljmfcifljkaaaGreatDoor
/-
  The program's closed facts that every card of this seat shares. Own work.
-/
namespace Go.Proofs.YtbljmfcifljkaaaGreatDoor
theorem g_laidOut:(laidOutB Tryz.prog)=true:=by kernel_rfl
theorem g_mapsRowed:(mapsRowed Tryz.prog)=true:=by kernel_rfl
theorem g_stops:((Tryz.prog.stops == []))=true:=by kernel_rfl
theorem g_knobs:((Tryz.prog.stopKnobs == []))=true:=by kernel_rfl
theorem g_heard:(Tryz.prog.stopsHeard)=true:=by kernel_rfl
theorem g_enter:(Tryz.prog.mayEnter)=true:=by kernel_rfl
theorem g_looks:true=Tryz.prog.looks []:=by kernel_rfl
theorem g_main : Tryz.prog.mainIs = some (true, "1c0856d2490429b5c8caa99d1d74bb6271b8d61428d19658c33e4f05c66be6d4".toList) := by kernel_rfl
theorem pinnedProg:Tryz.pinned.checked.prog=Tryz.prog:=rfl
end Go.Proofs.YtbljmfcifljkaaaGreatDoor
