/-
  The contract of FnExactAxiomsOf for its card. Own work, in the frame of the seat's UptoLaidToy.lean.
-/
import Derived.Test.YtbljmfcifljkaaaGreatDoorCards
import Derived.Test.YtbljmfcifljkaaaGreatDoorTie
import Derived.Test.YtbljmfcifljkaaaGreatDoorKLawAx
import Derived.Test.YtbljmfcifljkaaaGreatDoorKVarK
import Derived.WalkKit
import Derived.ProofKit
import Derived.OpenShut
import Derived.ReadAgain
import Derived.Deep.DeepHandedRow
import Derived.Deep.DeepWitnessRowRef
import Derived.Lib.LaidTab
set_option linter.all false
set_option maxRecDepth 100000
set_option maxHeartbeats 8000000
namespace Go.Proofs.YtbljmfcifljkaaaGreatDoor.cardAx
open Go.ChangeShapes Go.WideShapes Go.ChangeAt Go.RowKit
theorem primeTab {W:World} (h:laidMetH Tryz.prog Rows.fnExactAxiomsOfUptoRow.laid W):PrimeTab W :=
 primeTab_of (rest:=[]) (show laidMet Tryz.prog [("loop.example/g01073/impl.smallPrimes",Lib.tabData .i64 [2,3,5,7])] W from laidMet.tail (laidMet.tail (laidMet.tail (laidMet.tail (laidMet.tail h)))))
theorem contract (H:Type) (enc:TypeId×Value→H) (W:World) (base:Nat) (args:Array Value) (ds gs:List (DataW H)) (before:List MemPlace)
  (hval:∀(j:Nat) t v,Tryz.f3.params[j]?=some t→args[j]?=some v→Value.okWide Tryz.prog W .any base t v)
  (hW:DataW.Whole enc Tryz.prog Tryz.f3.params.toList Rows.fnExactAxiomsOfSpec.vars false W args.toList ds gs before) (hk:Rows.uptoSmall H (ds++gs)=true) (hL:laidMetH Tryz.prog Rows.fnExactAxiomsOfUptoRow.laid W) (hsh:W.ShapedOpen Tryz.prog) :
  Calls Tryz.prog 3 args W fun e W'=>∃v,e=.returned v∧Rows.fnExactAxiomsOfSpec.post enc Tryz.prog Tryz.f3 false true false false W args v W':=by
 have hW':=hW;obtain⟨p,q,hA0,hV,rfl,hfz,hnd⟩:=hW;have hA:DataW.TrodAll enc Tryz.prog W 0 (fun _=>true) true Tryz.f3.params.toList args.toList ds p:=hA0;have hlt:=hA.lt;have hAk:=hA;rw[Tryz.params3]at hA hval;obtain⟨v0,vs0,d0,ds0,p0,q0,hargs,rfl,rfl,⟨n0,h0⟩,r0⟩:=trodAll_cons hA;obtain⟨v1,vs1,d1,ds1,p1,q1,rfl,rfl,rfl,⟨n1,h1⟩,r1⟩:=trodAll_cons r0;obtain⟨v2,vs2,d2,ds2,p2,q2,rfl,rfl,rfl,⟨n2,h2⟩,r2⟩:=trodAll_cons r1;obtain⟨rfl,rfl,rfl⟩:=trodAll_nil r2;obtain rfl:args=#[v0,v1,v2]:=Array.toList_inj.1 hargs;obtain⟨z0,rfl⟩:=okWide_int Tryz.underlying3 (hval 0 3 v0 rfl rfl);obtain⟨z1,rfl⟩:=okWide_int Tryz.underlying3 (hval 1 3 v1 rfl rfl);obtain⟨z2,rfl⟩:=okWide_int Tryz.underlying3 (hval 2 3 v2 rfl rfl);have hg1:∃g,gs=[g]:=by
  obtain⟨_,_,_,_,d,_,h,_⟩:=trodVars_one hV;exact⟨d,h⟩
 obtain⟨g1,rfl⟩:=hg1;refine(lawAx_any z0 z1 z2 W (primeTab hL)).mono fun r W' ⟨hr,hg⟩=>?_;subst hr;simp only[List.append_nil]at hW' hAk hlt;exact⟨_,rfl,post_below (pv:=q) hW' (fun _ _ _=>trodAll_cons_mk (shut_bool Tryz.underlying4 _) trodAll_mk0)
  (fun sp hsp=>DataW.TrodAll.respare kids full (by rw[Tryz.params3];decide) (carryAll hAk (fun x hx=>sameAt_of_below hg (hlt x hx))) (fun x hx=>hsp x (List.mem_append_left _ hx))) (fun sp hsp=>varsKeep hV hg sp (fun x hx=>hsp x (List.mem_append_right _ hx))) (by simp)
  hg (ok_one (by kernel_rfl) rfl (okWide_bool_mk Tryz.underlying4 _))⟩
end Go.Proofs.YtbljmfcifljkaaaGreatDoor.cardAx
