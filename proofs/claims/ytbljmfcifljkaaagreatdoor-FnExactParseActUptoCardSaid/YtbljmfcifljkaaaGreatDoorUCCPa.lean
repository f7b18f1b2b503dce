/-
  The contract of FnExactParseAct for its card. Own work, in the frame of the seat's UptoLaidToy.lean.
-/
import Derived.Test.YtbljmfcifljkaaaGreatDoorCards
import Derived.Test.YtbljmfcifljkaaaGreatDoorTie
import Derived.Test.YtbljmfcifljkaaaGreatDoorULawPa
import Derived.Test.YtbljmfcifljkaaaGreatDoorUOB
import Derived.WalkKit
import Derived.ProofKit
import Derived.OpenShut
import Derived.ReadAgain
import Derived.Deep.DeepHandedRow
import Derived.Deep.DeepWitnessRowRef
import Derived.Lib.LaidTab
import Derived.Stop.LaidErr
set_option linter.all false
set_option maxRecDepth 100000
set_option maxHeartbeats 8000000
namespace Go.Proofs.YtbljmfcifljkaaaGreatDoor.cardPa
open Go.ChangeShapes Go.WideShapes Go.ChangeAt Go.RowKit Go.Stop
theorem primeTab {W:World} (h:laidMetH Tryz.prog Rows.fnExactParseActUptoRow.laid W):PrimeTab W :=
 primeTab_of (rest := [("unicode/utf8.first", Rows.laid_unicode_utf8_first)]) (laidMet.tail (laidMet.tail (laidMet.tail (laidMet.tail (laidMet.tail (laidMet.tail h))))))
theorem gEr : Tryz.prog.globalNamed "strconv.ErrRange" = some 2 := by kernel_rfl
theorem gErT:(Tryz.prog.globals[2]?).map (·.type)=some 96:=by kernel_rfl
theorem gEs : Tryz.prog.globalNamed "strconv.ErrSyntax" = some 1 := by kernel_rfl
theorem gEsT:(Tryz.prog.globals[1]?).map (·.type)=some 96:=by kernel_rfl
theorem starErr : "*" ++ "errors.errorString" = "*errors.errorString" := by decide
theorem rowErrS (u : TypeId) (h : Tryz.prog.typeName? 3 u = some "*errors.errorString") : u = 388 :=
 typeName_ptr_named (nm := "errors.errorString") (by rw [starErr]; kernel_rfl) (by kernel_rfl) (by decide) u (by rw [starErr]; exact h)
theorem cellsErrS:Tryz.prog.cellsOf 390=1:=by kernel_rfl
theorem cellsStr:Tryz.prog.cellsOf 9=1:=by kernel_rfl
theorem atoTab {W:World} (h:laidMetH Tryz.prog Rows.fnExactParseActUptoRow.laid W):AtoTab W:=by
 have h' : laidMet Tryz.prog [("math/bits.deBruijn32tab", Rows.laid_math_bits_deBruijn32tab), ("math/bits.deBruijn64tab", Rows.laid_math_bits_deBruijn64tab), ("internal/strconv.uint64pow10", Rows.laid_internal_strconv_uint64pow10), ("unicode/utf8.acceptRanges", Rows.laid_unicode_utf8_acceptRanges), ("strconv.ErrRange", Rows.laid_strconv_ErrRange), ("strconv.ErrSyntax", Rows.laid_strconv_ErrSyntax), ("loop.example/g01073/impl.smallPrimes", Rows.laid_loop_example_g01073_impl_smallPrimes), ("unicode/utf8.first", Rows.laid_unicode_utf8_first)] W := h
 have hR:=(laidMet.tail (laidMet.tail (laidMet.tail (laidMet.tail h'))))
 have hS:=laidMet.tail hR
 obtain ⟨a,s,hv,_⟩:=laid_sentinel hR gEr gErT Tryz.underlying96 rowErrS Tryz.underlying388 Tryz.underlying390 rfl rfl Tryz.underlying9 cellsErrS cellsStr
 obtain ⟨b,s',hv',_⟩:=laid_sentinel hS gEs gEsT Tryz.underlying96 rowErrS Tryz.underlying388 Tryz.underlying390 rfl rfl Tryz.underlying9 cellsErrS cellsStr
 exact ⟨⟨_,_,by simpa using World.var?_cell gEs hv' 0⟩,_,_,by simpa using World.var?_cell gEr hv 0⟩
theorem powTab {W:World} (h:laidMetH Tryz.prog Rows.fnExactParseActUptoRow.laid W):PowTab W :=
 powTab_of (rest := [("unicode/utf8.acceptRanges", Rows.laid_unicode_utf8_acceptRanges), ("strconv.ErrRange", Rows.laid_strconv_ErrRange), ("strconv.ErrSyntax", Rows.laid_strconv_ErrSyntax), ("loop.example/g01073/impl.smallPrimes", Rows.laid_loop_example_g01073_impl_smallPrimes), ("unicode/utf8.first", Rows.laid_unicode_utf8_first)]) (laidMet.tail (laidMet.tail h))
theorem contract (H:Type) (enc:TypeId × Value → H) (W:World) (base:Nat) (args:Array Value) (ds gs:List (DataW H)) (before:List MemPlace)
  (hval:∀ (j:Nat) t v,Tryz.f6.params[j]?=some t → args[j]?=some v → Value.okWide Tryz.prog W .any base t v)
  (hW:DataW.Whole enc Tryz.prog Tryz.f6.params.toList Rows.fnExactParseActSpec.vars false W args.toList ds gs before) (hk:Rows.uptoSmall H (ds ++ gs)=true) (hL:laidMetH Tryz.prog Rows.fnExactParseActUptoRow.laid W) (hsh:W.ShapedOpen Tryz.prog) :
  Calls Tryz.prog 6 args W fun e W'=>∃ v,e=.returned v∧Rows.fnExactParseActSpec.post enc Tryz.prog Tryz.f6 false true false false W args v W':=by
 have hW':=hW
 obtain ⟨p,q,hA0,hV,rfl,hfz,hnd⟩:=hW
 have hA:DataW.TrodAll enc Tryz.prog W 0 (fun _=>true) true Tryz.f6.params.toList args.toList ds p:=hA0
 have hlt:=hA.lt
 have hAk:=hA
 rw [Tryz.params6] at hA hval
 obtain ⟨v0,vs0,d0,ds0,p0,q0,hargs,rfl,rfl,⟨n0,h0⟩,r0⟩:=trodAll_cons hA
 obtain ⟨v1,vs1,d1,ds1,p1,q1,rfl,rfl,rfl,⟨n1,h1⟩,r1⟩:=trodAll_cons r0
 obtain ⟨rfl,rfl,rfl⟩:=trodAll_nil r1
 obtain rfl:args=#[v0,v1]:=Array.toList_inj.1 hargs
 obtain ⟨cs,rfl,_⟩:=okWide_struct Tryz.underlying44 (hval 0 44 v0 rfl rfl)
 obtain ⟨T,rfl⟩:=okWide_string Tryz.underlying9 (hval 1 9 v1 rfl rfl)
 have hg1:∃ g,gs=[g]:=by
  obtain ⟨_,_,_,_,d,_,h,_⟩:=trodVars_one hV
  exact ⟨d,h⟩
 obtain ⟨g1,rfl⟩:=hg1
 have hb:Rows.uptoBulkAll _≤1048576:=of_decide_eq_true hk
 simp only [List.append_nil,List.cons_append,List.nil_append,Rows.uptoBulkAll] at hb
 obtain ⟨s,vp,ne,ni,no,vf,ge,gi,go,e0,hR,hok⟩:=open_session h0 (by simp only at hb ⊢;omega)
 obtain ⟨T',e1,q1',_⟩:=DataW.trod_string Tryz.underlying9 h1
 obtain rfl:T=T':=by simpa [Value.cells] using e1
 simp only [Prod.mk.injEq] at q1'
 obtain ⟨rfl,rfl⟩:=q1'
 have i1:=bulk_lit_string (H:=H) T
 have e2:(Value.agg cs)=snV s vp ne ni no vf ge gi go:=by rw [e0];cases cs;simp [Value.cells]
 rw [e2] at hW' hAk hval ⊢
 refine (lawPa_any s vp ne ni no vf ge gi go T W (primeTab hL) (powTab hL) (splTab hsh) (atoTab hL) (by simp only [Rows.uptoBulk] at hb i1 ⊢;omega) hR hok).mono fun r W' ⟨hr,hg⟩=>?_
 subst hr
 simp only [List.append_nil] at hW' hAk hlt
 exact ⟨_,rfl,post_below (pv:=q) hW' (fun _ _ _=>trodAll_cons_mk (shut_bool Tryz.underlying4 _) trodAll_mk0)
  (fun sp hsp=>DataW.TrodAll.respare kids full (by rw [Tryz.params6];decide) (carryAll hAk (fun x hx=>sameAt_of_below hg (hlt x hx))) (fun x hx=>hsp x (List.mem_append_left _ hx))) (fun sp hsp=>varsKeep hV hg sp (fun x hx=>hsp x (List.mem_append_right _ hx))) (by simp)
  hg (ok_one (by kernel_rfl) rfl (okWide_bool_mk Tryz.underlying4 _))⟩
end Go.Proofs.YtbljmfcifljkaaaGreatDoor.cardPa
