/-
  The contract of FnExactParseTerm for its card. Own work, in the frame of the seat's UptoLaidToy.lean.
-/
import Derived.Test.YtldhpaflmnlcaaaGreatDoorCards
import Derived.Test.YtldhpaflmnlcaaaGreatDoorTie
import Derived.Test.YtldhpaflmnlcaaaGreatDoorQPtO
import Derived.Test.YtldhpaflmnlcaaaGreatDoorQErrT
import Derived.Test.YtldhpaflmnlcaaaGreatDoorQLawPt
import Derived.WalkKit
import Derived.ProofKit
import Derived.OpenShut
import Derived.ReadAgain
import Derived.Deep.DeepHandedRow
import Derived.Deep.DeepWitnessRowRef
import Derived.Lib.LaidTab
import Derived.Test.YtldhpaflmnlcaaaGreatDoorQZ
set_option linter.all false
set_option maxRecDepth 100000
set_option maxHeartbeats 8000000
namespace Go.Proofs.YtldhpaflmnlcaaaGreatDoor.cardPt
open Go.ChangeShapes Go.WideShapes Go.ChangeAt Go.RowKit Go.Stop
theorem contract (H:Type) (enc:TypeId × Value → H) (W:World) (base:Nat) (args:Array Value) (ds gs:List (DataW H)) (before:List MemPlace)
  (hval:∀ (j:Nat) t v,Tryz.f5.params[j]?=some t → args[j]?=some v → Value.okWide Tryz.prog W .any base t v)
  (hW:DataW.Whole enc Tryz.prog Tryz.f5.params.toList Rows.fnExactParseTermSpec.vars false W args.toList ds gs before) (hk:Rows.uptoSmall H (ds ++ gs)=true) (hL:laidMetH Tryz.prog Rows.fnExactParseTermUptoRow.laid W) (hsh:W.ShapedOpen Tryz.prog) :
  Calls Tryz.prog 5 args W fun e W'=>∃ v,e=.returned v∧Rows.fnExactParseTermSpec.post enc Tryz.prog Tryz.f5 false true false false W args v W':=by
 have hW':=hW
 obtain ⟨p,q,hA0,hV,rfl,hfz,hnd⟩:=hW
 have hA:DataW.TrodAll enc Tryz.prog W 0 (fun _=>true) true Tryz.f5.params.toList args.toList ds p:=hA0
 have hlt:=hA.lt
 have hAk:=hA
 rw [Tryz.params5] at hA hval
 obtain ⟨v0,vs0,d0,ds0,p0,q0,hargs,rfl,rfl,⟨n0,h0⟩,r0⟩:=trodAll_cons hA
 obtain ⟨v1,vs1,d1,ds1,p1,q1,rfl,rfl,rfl,⟨n1,h1⟩,r1⟩:=trodAll_cons r0
 obtain ⟨rfl,rfl,rfl⟩:=trodAll_nil r1
 obtain rfl:args=#[v0,v1]:=Array.toList_inj.1 hargs
 obtain ⟨a9,hva⟩:=errVar hL
 obtain ⟨rfl,rfl⟩:=hV.unique (vars_read1 enc gErrF gErrFType Tryz.underlying92 hva trivial _)
 obtain ⟨a,len,cap,rfl⟩:=okWide_slice Tryz.underlying22 (hval 0 22 v0 rfl rfl)
 obtain ⟨s,rfl⟩:=okWide_string Tryz.underlying9 (hval 1 9 v1 rfl rfl)
 obtain ⟨v,L,e0,hL0,hLn,hLo,hLm⟩:=open_dfs h0
 obtain ⟨s',e1,e2,_⟩:=DataW.trod_string Tryz.underlying9 h1
 obtain rfl:s=s':=by simpa [Value.cells] using e1
 obtain ⟨rfl,rfl⟩:d1=DataW.lit (.string s.data.toList)∧p1=[]:=by simpa using e2
 have hb:Rows.uptoBulkAll _≤1048576:=of_decide_eq_true hk
 simp only [List.cons_append,List.nil_append,List.append_nil,Rows.uptoBulkAll] at hb
 have hsb:=bulk_lit_string (H:=H) s
 obtain rfl:v=.slice a len cap:=by simpa [Value.cells] using e0.symm
 refine (lawPt_any _ L s W hL0 (by simp only at hLn;omega) (fun x hx=>?_) (by omega) (errTab hL) ?_).mono fun r W' ⟨hr,hg⟩=>?_
 ·obtain ⟨z1,z2,z3⟩:=hLo x hx
  exact ⟨by simp only at z1;omega,fun d hd=>by have:=z2 d hd;simp only at this;omega,by simp only at z3;omega⟩
 ·simp only at hLm;omega
 ·subst hr
  simp only [List.append_nil] at hW' hAk hlt
  exact ⟨_,rfl,post_below (pv:=[.cell 0 0]) hW' (fun _ _ _=>trodAll_cons_mk (shut_bool Tryz.underlying4 _) trodAll_mk0)
   (fun sp hsp=>DataW.TrodAll.respare kids full (by rw [Tryz.params5];decide) (carryAll hAk (fun x hx=>sameAt_of_below hg (hlt x hx))) (fun x hx=>hsp x (List.mem_append_left _ hx))) (fun sp _=>vars_read1 enc gErrF gErrFType Tryz.underlying92 (var_keep hg hva) trivial sp) (by simp)
   hg (ok_one (by kernel_rfl) rfl (okWide_bool_mk Tryz.underlying4 _))⟩
end Go.Proofs.YtldhpaflmnlcaaaGreatDoor.cardPt
