/-
  What faultOf needs of the variables' contents, out of what FnPrinted's row lists. Own work, in the frame of the guide's ToyasProofs.lean and Two9Proofs.lean.
-/
import Derived.Test.YtikgblkfmpecfaaGreatDoorKErs2
import Derived.Test.YtikgblkfmpecfaaGreatDoorRows
import Derived.Stop.LaidErr
import Derived.LaidHandle
set_option linter.all false
set_option maxRecDepth 100000
set_option maxHeartbeats 8000000
namespace Go.Proofs.YtikgblkfmpecfaaGreatDoor
open Go.ChangeShapes Go.WideShapes Go.RowKit Go.Stop
theorem gErrT : Tryz.prog.globalNamed "errors.errorType" = some 1 := by kernel_rfl
theorem gErrF : Tryz.prog.globalNamed "loop.example/g01073/impl.errFault" = some 0 := by kernel_rfl
theorem gErrFType:(Tryz.prog.globals[0]?).map (·.type)=some 81:=by kernel_rfl
theorem rtRow : (Tryz.prog.cutTypes.find? (·.1 == "internal/reflectlite.rtype")).map (·.2) = some 236 := by kernel_rfl
theorem typesSize:Tryz.prog.types.size=321:=by kernel_rfl
theorem oneErr:((List.range 321).filter fun t=>Tryz.prog.rowNamed t [101,114,114,111,114])=[81]:=by kernel_rfl
theorem starErr : "*" ++ "errors.errorString" = "*errors.errorString" := by decide
theorem rowErrS (u : TypeId) (h : Tryz.prog.typeName? 3 u = some "*errors.errorString") : u = 290 :=
 typeName_ptr_named (nm := "errors.errorString") (by rw [starErr]; kernel_rfl) (by kernel_rfl) (by decide) u (by rw [starErr]; exact h)
theorem cellsErrS:Tryz.prog.cellsOf 292=1:=by kernel_rfl
theorem cellsStr:Tryz.prog.cellsOf 9=1:=by kernel_rfl
theorem errVar {W : World} (h : laidMetH Tryz.prog Rows.fnPrintedUptoRow.laid W) : ∃ a, W.var? Tryz.prog "loop.example/g01073/impl.errFault" = some #[.iface 290 (.pointer (some a))] := by
 have h' : laidMet Tryz.prog [("math/bits.deBruijn32tab", Rows.laid_math_bits_deBruijn32tab), ("math/bits.deBruijn64tab", Rows.laid_math_bits_deBruijn64tab), ("internal/strconv.uint64pow10", Rows.laid_internal_strconv_uint64pow10), ("strconv.ErrRange", Rows.laid_strconv_ErrRange), ("strconv.ErrSyntax", Rows.laid_strconv_ErrSyntax), ("loop.example/g01073/impl.errFault", Rows.laid_loop_example_g01073_impl_errFault)] W ∧ handlesMet Tryz.prog [("errors.errorType", Rows.laid_errors_errorType)] W := h
 have hF:=(laidMet.tail (laidMet.tail (laidMet.tail (laidMet.tail (laidMet.tail h'.1)))))
 obtain ⟨a,s,hv,_⟩:=laid_sentinel hF gErrF gErrFType Tryz.underlying81 rowErrS Tryz.underlying290 Tryz.underlying292 rfl rfl Tryz.underlying9 cellsErrS cellsStr
 exact ⟨a,hv⟩
theorem var_keep {W W':World} {n:String} {cs:Array Value} (hb:Below W.heap.size W W') (h:W.var? Tryz.prog n=some cs):W'.var? Tryz.prog n=some cs:=by
 unfold World.var? at h ⊢
 cases hg:Tryz.prog.globalNamed n with
 | none=>simp [hg] at h
 | some g =>
  simp only [hg,Option.bind_some] at h ⊢
  have hlt:g<W.heap.size:=by
   rcases Nat.lt_or_ge g W.heap.size with h'|h'
   ·exact h'
   ·simp [Array.getElem?_eq_none h'] at h
  rw [hb.block g hlt]
  exact h
theorem errTab {W:World} (h:laidMetH Tryz.prog Rows.fnPrintedUptoRow.laid W):ErrTab W:=by
 have h' : laidMet Tryz.prog [("math/bits.deBruijn32tab", Rows.laid_math_bits_deBruijn32tab), ("math/bits.deBruijn64tab", Rows.laid_math_bits_deBruijn64tab), ("internal/strconv.uint64pow10", Rows.laid_internal_strconv_uint64pow10), ("strconv.ErrRange", Rows.laid_strconv_ErrRange), ("strconv.ErrSyntax", Rows.laid_strconv_ErrSyntax), ("loop.example/g01073/impl.errFault", Rows.laid_loop_example_g01073_impl_errFault)] W ∧ handlesMet Tryz.prog [("errors.errorType", Rows.laid_errors_errorType)] W := h
 refine ⟨?_,?_⟩
 ·obtain ⟨a,hv⟩:=errVar h
  exact ⟨a,by simpa using World.var?_cell gErrF hv 0⟩
 ·obtain ⟨name,u,ty,e1,e2,e3,e4,e5⟩:=h'.2 _ (List.mem_singleton.2 rfl)
  have en:name=[101,114,114,111,114]:=(Option.some.inj e1).symm
  subst en
  obtain rfl:=Option.some.inj (rtRow.symm.trans e2)
  have hm:ty ∈ (List.range 321).filter fun t=>Tryz.prog.rowNamed t [101,114,114,111,114]:=List.mem_filter.2 ⟨List.mem_range.2 (by rw [← typesSize];exact e3),e4⟩
  rw [oneErr] at hm
  obtain rfl:=List.mem_singleton.1 hm
  have hh:typeHandle Tryz.prog 81=.pointer (some ⟨8,81,none⟩):=by kernel_rfl
  rw [hh] at e5
  simpa using World.var?_cell gErrT e5 0
end Go.Proofs.YtikgblkfmpecfaaGreatDoor
