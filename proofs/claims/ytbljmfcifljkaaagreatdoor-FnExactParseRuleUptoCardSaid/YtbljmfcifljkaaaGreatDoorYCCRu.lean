/-
  The contract of FnExactParseRule for its card. Own work, in the frame of the seat's UptoLaidToy.lean.
-/
import Derived.Test.YtbljmfcifljkaaaGreatDoorCards
import Derived.Test.YtbljmfcifljkaaaGreatDoorTie
import Derived.Test.YtbljmfcifljkaaaGreatDoorYOB
import Derived.Test.YtbljmfcifljkaaaGreatDoorYLawRu
import Derived.WalkKit
import Derived.ProofKit
import Derived.OpenShut
import Derived.ReadAgain
import Derived.Deep.DeepHandedRow
import Derived.Deep.DeepWitnessRowRef
import Derived.Lib.LaidTab
import Derived.Test.YtbljmfcifljkaaaGreatDoorYZ
set_option linter.all false
set_option maxRecDepth 100000
set_option maxHeartbeats 8000000
namespace Go.Proofs.YtbljmfcifljkaaaGreatDoor.cardRu
open Go.ChangeShapes Go.WideShapes Go.ChangeAt Go.RowKit
theorem contract (H:Type) (enc:TypeId × Value → H) (W:World) (base:Nat) (args:Array Value) (ds gs:List (DataW H)) (before:List MemPlace)
  (hval:∀ (j:Nat) t v,Tryz.f4.params[j]?=some t → args[j]?=some v → Value.okWide Tryz.prog W .any base t v)
  (hW:DataW.Whole enc Tryz.prog Tryz.f4.params.toList Rows.fnExactParseRuleSpec.vars false W args.toList ds gs before) (hk:Rows.uptoSmall H (ds ++ gs)=true) (hL:laidMetH Tryz.prog Rows.fnExactParseRuleUptoRow.laid W) (hsh:W.ShapedOpen Tryz.prog) :
  Calls Tryz.prog 4 args W fun e W'=>∃ v,e=.returned v∧Rows.fnExactParseRuleSpec.post enc Tryz.prog Tryz.f4 false true false false W args v W':=by
 have hW':=hW
 obtain ⟨p,q,hA0,hV,rfl,hfz,hnd⟩:=hW
 have hA:DataW.TrodAll enc Tryz.prog W 0 (fun _=>true) true Tryz.f4.params.toList args.toList ds p:=hA0
 have hlt:=hA.lt
 have hAk:=hA
 rw [Tryz.params4] at hA hval
 obtain ⟨v0,vs0,d0,ds0,p0,q0,hargs,rfl,rfl,⟨n0,h0⟩,r0⟩:=trodAll_cons hA
 obtain ⟨rfl,rfl,rfl⟩:=trodAll_nil r0
 obtain rfl:args=#[v0]:=Array.toList_inj.1 hargs
 obtain ⟨rfl,rfl⟩:=trodVars_none hV
 obtain ⟨s,rfl⟩:=okWide_string Tryz.underlying9 (hval 0 9 v0 rfl rfl)
 refine (lawRu_any s W).mono fun r W' ⟨hr,hg⟩=>?_
 ·subst hr
  simp only [List.append_nil] at hW' hAk hlt
  exact ⟨_,rfl,post_below (pv:=[]) hW' (fun _ _ _=>trodAll_cons_mk (shut_bool Tryz.underlying4 _) trodAll_mk0)
   (fun sp hsp=>DataW.TrodAll.respare kids full (by rw [Tryz.params4];decide) (carryAll hAk (fun x hx=>sameAt_of_below hg (hlt x hx))) (fun x hx=>hsp x hx)) (fun _ _=>rfl) (by simp)
   hg (ok_one (by kernel_rfl) rfl (okWide_bool_mk Tryz.underlying4 _))⟩
end Go.Proofs.YtbljmfcifljkaaaGreatDoor.cardRu
