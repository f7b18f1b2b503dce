/-
  The contract of FnExactCompileGraph for its card. Own work, in the frame of the seat's UptoLaidToy.lean.
-/
import Derived.Test.YtbljmfcifljkaaaGreatDoorCards
import Derived.Test.YtbljmfcifljkaaaGreatDoorTie
import Derived.Test.YtbljmfcifljkaaaGreatDoorXBQ
import Derived.Test.YtbljmfcifljkaaaGreatDoorXBR
import Derived.Test.YtbljmfcifljkaaaGreatDoorXBS
import Derived.WalkKit
import Derived.ProofKit
import Derived.OpenShut
import Derived.ReadAgain
import Derived.Deep.DeepHandedRow
import Derived.Deep.DeepWitnessRowRef
import Derived.Lib.LaidTab
set_option linter.all false
set_option maxRecDepth 100000
set_option maxHeartbeats 8000000
namespace Go.Proofs.YtbljmfcifljkaaaGreatDoor.cardCg
open Go.ChangeShapes Go.WideShapes Go.ChangeAt Go.RowKit
theorem primeTab {W:World} (h:laidMetH Tryz.prog Rows.fnExactCompileGraphUptoRow.laid W):PrimeTab W :=
 primeTab_of (rest := []) (show laidMet Tryz.prog [("loop.example/g01073/impl.smallPrimes", Lib.tabData .i64 [2, 3, 5, 7])] W from h)
theorem contract (H:Type) (enc:TypeId × Value → H) (W:World) (base:Nat) (args:Array Value) (ds gs:List (DataW H)) (before:List MemPlace)
  (hval:∀ (j:Nat) t v,Tryz.f7.params[j]?=some t → args[j]?=some v → Value.okWide Tryz.prog W .any base t v)
  (hW:DataW.Whole enc Tryz.prog Tryz.f7.params.toList Rows.fnExactCompileGraphSpec.vars false W args.toList ds gs before) (hk:Rows.uptoSmall H (ds ++ gs)=true) (hL:laidMetH Tryz.prog Rows.fnExactCompileGraphUptoRow.laid W) (hsh:W.ShapedOpen Tryz.prog) :
  Calls Tryz.prog 7 args W fun e W'=>∃ v,e=.returned v∧Rows.fnExactCompileGraphSpec.post enc Tryz.prog Tryz.f7 false true false false W args v W':=by
 have hW':=hW
 obtain ⟨p,q,hA0,hV,rfl,hfz,hnd⟩:=hW
 have hA:DataW.TrodAll enc Tryz.prog W 0 (fun _=>true) true Tryz.f7.params.toList args.toList ds p:=hA0
 have hlt:=hA.lt
 have hAk:=hA
 rw [Tryz.params7] at hA hval
 obtain ⟨v0,vs0,d0,ds0,p0,q0,hargs,rfl,rfl,⟨n0,h0⟩,r0⟩:=trodAll_cons hA
 obtain ⟨v1,vs1,d1,ds1,p1,q1,rfl,rfl,rfl,⟨n1,h1⟩,r1⟩:=trodAll_cons r0
 obtain ⟨rfl,rfl,rfl⟩:=trodAll_nil r1
 obtain rfl:args=#[v0,v1]:=Array.toList_inj.1 hargs
 obtain ⟨z0,rfl⟩:=okWide_int Tryz.underlying3 (hval 0 3 v0 rfl rfl)
 obtain ⟨cs,rfl,_⟩:=okWide_struct Tryz.underlying42 (hval 1 42 v1 rfl rfl)
 have hg1:∃ g,gs=[g]:=by
  obtain ⟨_,_,_,_,d,_,h,_⟩:=trodVars_one hV
  exact ⟨d,h⟩
 obtain ⟨g1,rfl⟩:=hg1
 have hb:Rows.uptoBulkAll _≤1048576:=of_decide_eq_true hk
 simp only [List.append_nil,List.cons_append,List.nil_append,Rows.uptoBulkAll] at hb
 obtain ⟨g,ve,vi,vo,e0,hR,hN⟩:=open_graph h1
 have hok:GrOk g:=hN.ok (by simp only at hb ⊢;omega)
 have e2:(Value.agg cs)=.agg #[.int .i64 g.wires,ve,vi,vo]:=by
  congr 1
  exact Array.toList_inj.1 (by simpa [Value.cells] using e0)
 rw [e2] at hW' hAk hval ⊢
 refine (lawCg_any z0 g ve vi vo W (primeTab hL) hR hok).mono fun r W' ⟨hr,hg⟩=>?_
 subst hr
 simp only [List.append_nil] at hW' hAk hlt
 exact ⟨_,rfl,post_below (pv:=q) hW' (fun _ _ _=>trodAll_cons_mk (shut_bool Tryz.underlying4 _) trodAll_mk0)
  (fun sp hsp=>DataW.TrodAll.respare kids full (by rw [Tryz.params7];decide) (carryAll hAk (fun x hx=>sameAt_of_below hg (hlt x hx))) (fun x hx=>hsp x (List.mem_append_left _ hx))) (fun sp hsp=>varsKeep hV hg sp (fun x hx=>hsp x (List.mem_append_right _ hx))) (by simp)
  hg (ok_one (by kernel_rfl) rfl (okWide_bool_mk Tryz.underlying4 _))⟩
end Go.Proofs.YtbljmfcifljkaaaGreatDoor.cardCg
