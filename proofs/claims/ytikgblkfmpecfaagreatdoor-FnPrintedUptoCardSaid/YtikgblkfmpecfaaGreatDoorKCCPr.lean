/-
  The contract of FnPrinted for its card. Own work, in the frame of the seat's UptoLaidToy.lean.
-/
import Derived.Test.YtikgblkfmpecfaaGreatDoorCards
import Derived.Test.YtikgblkfmpecfaaGreatDoorTie
import Derived.Test.YtikgblkfmpecfaaGreatDoorKOpenB
import Derived.Test.YtikgblkfmpecfaaGreatDoorKErrP
import Derived.Test.YtikgblkfmpecfaaGreatDoorKLawPr
import Derived.WalkKit
import Derived.ProofKit
import Derived.OpenShut
import Derived.ReadAgain
import Derived.Deep.DeepHandedRow
import Derived.Deep.DeepWitnessRowRef
import Derived.Lib.LaidTab
import Derived.Test.YtikgblkfmpecfaaGreatDoorKZ
set_option linter.all false
set_option maxRecDepth 100000
set_option maxHeartbeats 8000000
namespace Go.Proofs.YtikgblkfmpecfaaGreatDoor.cardPr
open Go.ChangeShapes Go.WideShapes Go.ChangeAt Go.RowKit Go.Stop
theorem contract (H:Type) (enc:TypeId × Value → H) (W:World) (base:Nat) (args:Array Value) (ds gs:List (DataW H)) (before:List MemPlace)
  (hval:∀ (j:Nat) t v,Tryz.f3.params[j]?=some t → args[j]?=some v → Value.okWide Tryz.prog W .any base t v)
  (hW:DataW.Whole enc Tryz.prog Tryz.f3.params.toList Rows.fnPrintedSpec.vars false W args.toList ds gs before) (hk:Rows.uptoSmall H (ds ++ gs)=true) (hL:laidMetH Tryz.prog Rows.fnPrintedUptoRow.laid W) (hsh:W.ShapedOpen Tryz.prog) :
  Calls Tryz.prog 3 args W fun e W'=>∃ v,e=.returned v∧Rows.fnPrintedSpec.post enc Tryz.prog Tryz.f3 false true false false W args v W':=by
 have hW':=hW
 obtain ⟨p,q,hA0,hV,rfl,hfz,hnd⟩:=hW
 have hA:DataW.TrodAll enc Tryz.prog W 0 (fun _=>true) true Tryz.f3.params.toList args.toList ds p:=hA0
 have hlt:=hA.lt
 have hAk:=hA
 rw [Tryz.params3] at hA hval
 obtain ⟨v0,vs0,d0,ds0,p0,q0,hargs,rfl,rfl,⟨n0,h0⟩,r0⟩:=trodAll_cons hA
 obtain ⟨v1,vs1,d1,ds1,p1,q1,rfl,rfl,rfl,⟨n1,h1⟩,r1⟩:=trodAll_cons r0
 obtain ⟨rfl,rfl,rfl⟩:=trodAll_nil r1
 obtain rfl:args=#[v0,v1]:=Array.toList_inj.1 hargs
 obtain ⟨a9,hva⟩:=errVar hL
 obtain ⟨rfl,rfl⟩:=hV.unique (vars_read1 enc gErrF gErrFType Tryz.underlying81 hva trivial _)
 have l0:=okWide_low Tryz.underlying22 (hval 0 22 v0 rfl rfl)
 have l1:=okWide_low Tryz.underlying22 (hval 1 22 v1 rfl rfl)
 obtain ⟨a,len,cap,rfl⟩:=okWide_slice Tryz.underlying22 (hval 0 22 v0 rfl rfl)
 obtain ⟨b,len',cap',rfl⟩:=okWide_slice Tryz.underlying22 (hval 1 22 v1 rfl rfl)
 obtain ⟨u,xs,e0,hx0,hxn⟩:=open_bytes h0
 obtain ⟨u',ys,e1,hy0,hyn⟩:=open_bytes h1
 have hb:Rows.uptoBulkAll _≤1048576:=of_decide_eq_true hk
 simp only [List.cons_append,List.nil_append,List.append_nil,Rows.uptoBulkAll] at hb
 obtain rfl:u=.slice a len cap:=by simpa [Value.cells] using e0.symm
 obtain rfl:u'=.slice b len' cap':=by simpa [Value.cells] using e1.symm
 refine (lawPr_any _ _ xs ys W hx0 hy0 l0 l1 (by simp only at hxn;omega) (by simp only at hyn;omega) (errTab hL)).mono fun r W' ⟨hr,hg⟩=>?_
 subst hr
 simp only [List.append_nil] at hW' hAk hlt
 exact ⟨_,rfl,post_below (pv:=[.cell 0 0]) hW' (fun _ _ _=>trodAll_cons_mk (shut_bool Tryz.underlying4 _) trodAll_mk0)
   (fun sp hsp=>DataW.TrodAll.respare kids full (by rw [Tryz.params3];decide) (carryAll hAk (fun x hx=>sameAt_of_below hg (hlt x hx))) (fun x hx=>hsp x (List.mem_append_left _ hx))) (fun sp _=>vars_read1 enc gErrF gErrFType Tryz.underlying81 (var_keep hg hva) trivial sp) (by simp)
   hg (ok_one (by kernel_rfl) rfl (okWide_bool_mk Tryz.underlying4 _))⟩
end Go.Proofs.YtikgblkfmpecfaaGreatDoor.cardPr
