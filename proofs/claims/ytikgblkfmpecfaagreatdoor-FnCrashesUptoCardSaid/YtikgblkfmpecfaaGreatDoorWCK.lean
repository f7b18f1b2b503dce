/-
  A world for FnCrashes' witness: the settled one, the five listed variables holding what their initialisers lay. Own work.
-/
import Derived.Test.YtikgblkfmpecfaaGreatDoorWOP
import Derived.Test.YtikgblkfmpecfaaGreatDoorWY
import Derived.Test.YtikgblkfmpecfaaGreatDoorRows
import Derived.Stop.LaidErr
import Derived.Test.YtikgblkfmpecfaaGreatDoorCards
import Derived.Test.YtikgblkfmpecfaaGreatDoorTie
import Derived.Test.YtikgblkfmpecfaaGreatDoorWLawCr
import Derived.WalkKit
import Derived.ProofKit
import Derived.OpenShut
import Derived.ReadAgain
import Derived.Deep.DeepHandedRow
import Derived.Deep.DeepWitnessRowRef
import Derived.Lib.LaidTab
import Derived.Test.YtikgblkfmpecfaaGreatDoorWZ
set_option linter.all false
set_option maxRecDepth 100000
set_option maxHeartbeats 8000000
namespace Go.Proofs.YtikgblkfmpecfaaGreatDoor
open Go.ChangeShapes Go.WideShapes Go.ChangeAt Go.RowKit
noncomputable def laidWorld (os:Os):World :=
 let N:=(World.settled Tryz.prog os).heap.size
 let w0:=World.holding Tryz.prog os ⟨#[.cells #[.string Vs] 292,.cells #[.string Vt] 292],#[],[]⟩
 let put (h:Array Obj) (g:Nat) (cs:Array Value):Array Obj:=h.modify g fun
  | .cells _ t frozen=>.cells cs t frozen
  | o=>o
 let h1:=put w0.heap 4 (Vu.map λz=>Value.int .u8 z).toArray
 let h2:=put h1 5 (Vw.map λz=>Value.int .u8 z).toArray
 let h3:=put h2 3 (Vx.map λz=>Value.int .u64 z).toArray
 let h4:=put h3 7 #[.iface 290 (.pointer (some ⟨N,0,none⟩))]
 let h5:=put h4 6 #[.iface 290 (.pointer (some ⟨N+1,0,none⟩))]
 { w0 with heap:=h5 }
theorem laid_met (os:Os) (args:Array Value):laidMet Tryz.prog Rows.fnCrashesUptoRow.laid ((laidWorld os).forCall (λ_ _=>0) ⟨#[],args,[]⟩).memory :=
 laidMet_of_run' 8 (by kernel_rfl) (by kernel_rfl)
theorem Ou:(Tryz.prog.globals[3]?).map (·.type)=some 271:=by kernel_rfl
theorem Ov:Tryz.prog.cellsOf 271=20:=by kernel_rfl
theorem Ox:Tryz.prog.cellsOf 65=1:=by kernel_rfl
theorem Oy {W:World} (h:laidMetH Tryz.prog Rows.fnCrashesUptoRow.laid W):iM W:=by
 have h2:laidMet Tryz.prog (("internal/strconv.uint64pow10",Lib.tabData .u64 Lib.pow10Tab)::[("strconv.ErrRange",Rows.laid_strconv_ErrRange),("strconv.ErrSyntax",Rows.laid_strconv_ErrSyntax)]) W:=(laidMet.tail (laidMet.tail h))
 exact Lib.tabIs_of_head Oz Ou Tryz.underlying271 Tryz.underlying65 Ox Ov h2
end Go.Proofs.YtikgblkfmpecfaaGreatDoor
namespace Go.Proofs.YtikgblkfmpecfaaGreatDoor.cardCr
open Go.ChangeShapes Go.WideShapes Go.ChangeAt Go.RowKit Go.Stop
theorem contract (H:Type) (enc:TypeId×Value->H) (W:World) (base:Nat) (args:Array Value) (ds gs:List (DataW H)) (before:List MemPlace)
  (hval:∀(j:Nat) t v,Tryz.f5.params[j]?=some t->args[j]?=some v->Value.okWide Tryz.prog W .any base t v)
  (hW:DataW.Whole enc Tryz.prog Tryz.f5.params.toList Rows.fnCrashesSpec.vars false W args.toList ds gs before) (hk:Rows.uptoSmall H (ds++gs)=true) (hL:laidMetH Tryz.prog Rows.fnCrashesUptoRow.laid W) (hsh:W.ShapedOpen Tryz.prog) :
  Calls Tryz.prog 5 args W λe W'=>∃v,e=.returned v/\Rows.fnCrashesSpec.post enc Tryz.prog Tryz.f5 false true false false W args v W':=by
 have hW':=hW;obtain⟨p,q,hA0,hV,rfl,hfz,hnd⟩:=hW;have hA:DataW.TrodAll enc Tryz.prog W 0 (λ_=>true) true Tryz.f5.params.toList args.toList ds p:=hA0;have hlt:=hA.lt;have hAk:=hA;rw[Tryz.params5]at hA hval;obtain⟨v0,vs0,d0,ds0,p0,q0,hargs,rfl,rfl,⟨n0,h0⟩,r0⟩:=trodAll_cons hA;obtain⟨v1,vs1,d1,ds1,p1,q1,rfl,rfl,rfl,⟨n1,h1⟩,r1⟩:=trodAll_cons r0;obtain⟨rfl,rfl,rfl⟩:=trodAll_nil r1;obtain rfl:args=#[v0,v1]:=Array.toList_inj.1 hargs;obtain⟨rfl,rfl⟩:=trodVars_none hV;have l0:=Jp Tryz.underlying22 (hval 0 22 v0 rfl rfl);have l1:=Jp Tryz.underlying22 (hval 1 22 v1 rfl rfl);obtain⟨a,len,cap,rfl⟩:=okWide_slice Tryz.underlying22 (hval 0 22 v0 rfl rfl);obtain⟨b,len',cap',rfl⟩:=okWide_slice Tryz.underlying22 (hval 1 22 v1 rfl rfl);obtain⟨u,xs,e0,hx0,hxn⟩:=open_bytes h0;obtain⟨u',ys,e1,hy0,hyn⟩:=open_bytes h1;have hb:Rows.uptoBulkAll _<=1048576:=of_decide_eq_true hk;simp only[List.cons_append,List.nil_append,List.append_nil,Rows.uptoBulkAll]at hb;obtain rfl:u=.slice a len cap:=by simpa[Value.cells]using e0.symm
 obtain rfl:u'=.slice b len' cap':=by simpa[Value.cells]using e1.symm
 refine(abQ _ _ xs ys W hx0 hy0 l0 l1 (by simp only at hxn;omega) (by simp only at hyn;omega) (Vy hsh) (Oy hL)).mono λr W' ⟨hr,hg⟩=>?_;subst hr;simp only[List.append_nil]at hW' hAk hlt;exact⟨_,rfl,Vz (pv:=[]) hW' (λ_ _ _=>trodAll_cons_mk (shut_bool Tryz.underlying4 _) trodAll_mk0)
  (λsp hsp=>DataW.TrodAll.respare kids full (by rw[Tryz.params5];decide) (OA hAk (λx hx=>VA hg (hlt x hx))) (λx hx=>hsp x hx)) (λ_ _=>rfl) (by simp)
  hg (ok_one (by kernel_rfl) rfl (okWide_bool_mk Tryz.underlying4 _))⟩
end Go.Proofs.YtikgblkfmpecfaaGreatDoor.cardCr
