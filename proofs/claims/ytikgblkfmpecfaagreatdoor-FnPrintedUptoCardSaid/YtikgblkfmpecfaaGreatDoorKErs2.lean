/-
  errors.As at a fault, and faultOf. Own work, in the frame of the guide's ToyasAs.lean.
-/
import Derived.Test.YtikgblkfmpecfaaGreatDoorKErs
import Derived.Test.YtikgblkfmpecfaaGreatDoorKC
import Derived.BigQuiet
import Derived.WalkSmall
import Derived.Deep.QuietTactic
set_option linter.all false
set_option maxRecDepth 100000
set_option maxHeartbeats 8000000
namespace Go.Proofs.YtikgblkfmpecfaaGreatDoor
open Go.RowKit Go.Extern.Stop Go.Stop Go.Extern
set_option maxRecDepth 100000
set_option maxHeartbeats 4000000
theorem as_fault (p c:Int) (tb vb:Nat) (u v:Value) (w:World) (hv:w.cell? ⟨vb,0,none⟩=some (.pointer (some ⟨tb,0,none⟩))) (t0:w.cell? ⟨tb,0,none⟩=some u) (t1:w.cell? ⟨tb,1,none⟩=some v) (hf:∀ j,w.frozen? ⟨tb,j,none⟩=false) :
  Calls Tryz.prog 160 #[(.iface 161 (.agg #[.int .i64 p,.int .i64 c])),.iface 164 (.pointer (some ⟨tb,0,none⟩)),.agg #[.pointer (some ⟨8,164,none⟩),.pointer (some ⟨vb,0,none⟩),.int .u64 150],(.iface 236 (.agg #[.pointer (some ⟨8,161,none⟩)]))] w fun e w'=>e=.returned (.bool true)∧w'.cell? ⟨tb,0,none⟩=some (.int .i64 p)∧w'.cell? ⟨tb,1,none⟩=some (.int .i64 c)∧Exc (fun k=>k=tb) w w':=by
 have h1:=@run_callFunc_extern Tryz.prog 155 _ (ReflectliteType.typeOf) Tryz.func155 (by kernel_rfl) (by kernel_rfl) (by kernel_rfl) (by kernel_rfl)
 have h2 := @run_callFunc_extern Tryz.prog 265 _ (ReflectliteType.relation "AssignableTo" ReflectliteType.assignableTo) Tryz.func265 (by kernel_rfl) (by kernel_rfl) (by kernel_rfl) (by kernel_rfl)
 have h3 := @run_callFunc_extern Tryz.prog 191 _ (ReflectliteValue.method (ReflectliteValue.valueError "reflectlite.Value.Elem" 0) ReflectliteValue.elem) Tryz.func191 (by kernel_rfl) (by kernel_rfl) (by kernel_rfl) (by kernel_rfl)
 have h4:=@run_callFunc_extern Tryz.prog 157 _ (fun args=>ReflectliteValue.unpack (args.getD 0 (.tuple #[]))) Tryz.func157 (by kernel_rfl) (by kernel_rfl) (by kernel_rfl) (by kernel_rfl)
 have h5:=@run_callFunc_extern Tryz.prog 192 _ ReflectliteValue.set Tryz.func192 (by kernel_rfl) (by kernel_rfl) (by kernel_rfl) (by kernel_rfl)
 have f1:=asTypeOfT
 have f2:=asMethodAssignableTo
 have f3:=asAssignableT
 have f4:=asValueOfT
 have zt:=cell_lt t0
 have zv:=cell_lt hv
 have el:=asElemVP ⟨vb,0,none⟩ ⟨tb,0,none⟩ (w.alloc (.cells #[.pointer (some ⟨8,164,none⟩),.pointer (some ⟨vb,0,none⟩),.int .u64 150] 210)) (alloc_keep hv _)
 have st:=asSetT tb (w.heap.size+1) p c u v ((w.alloc (.cells #[.pointer (some ⟨8,164,none⟩),.pointer (some ⟨vb,0,none⟩),.int .u64 150] 210)).alloc (.cells #[.int .i64 p,.int .i64 c] 161)) (by go_simp) (by go_simp) (alloc_keep (alloc_keep t0 _) _) (alloc_keep (alloc_keep t1 _) _) (fun j=>by have:=hf j;go_simp)
 go_enter Tryz.func160,Tryz.ntmps160
 go_wp2
 refine wp_loop_rounds 1 ?_
 rw [rounds_succ]
 go_wp2
 go_ret
 exact ⟨rfl,by go_simp,by go_simp,(exc_set (T:=fun k=>k=tb) (exc_set (T:=fun k=>k=tb) (Exc.refl _ w) (.inr rfl) (a:=⟨tb,0,none⟩) _) (.inr rfl) (a:=⟨tb,1,none⟩) _).below (((Below.refl _ _).alloc (Nat.le_refl _) _).alloc (by simp) _)⟩
theorem fbox {w W:World} {a b:Value} {t:TypeId} (hB:Below (w.heap.size+1) (w.alloc (.cells #[a,b] t)) W) :
  W.cell? ⟨w.heap.size,0,none⟩=some a∧W.cell? ⟨w.heap.size,1,none⟩=some b∧(∀ j,W.frozen? ⟨w.heap.size,j,none⟩=false)∧w.heap.size<W.heap.size∧Below w.heap.size w W:=by
 refine ⟨?_,?_,fun j=>?_,by have:=hB.size;simp at this;omega,(alloc_below _ _).trans (hB.mono (by omega))⟩
 ·rw [hB.cell (p:=⟨w.heap.size,0,none⟩) (by simp)];simp
 ·rw [hB.cell (p:=⟨w.heap.size,1,none⟩) (by simp)];simp
 ·rw [hB.frozen (p:=⟨w.heap.size,j,none⟩) (by simp)];simp
theorem As_fault (p c:Int) (tb:Nat) (u v:Value) (w:World) (he:w.cell? ⟨1,0,none⟩=some (.iface 236 (.agg #[.pointer (some ⟨8,81,none⟩)]))) (t0:w.cell? ⟨tb,0,none⟩=some u) (t1:w.cell? ⟨tb,1,none⟩=some v) (hf:∀ j,w.frozen? ⟨tb,j,none⟩=false) :
  Calls Tryz.prog 94 #[(.iface 161 (.agg #[.int .i64 p,.int .i64 c])),.iface 164 (.pointer (some ⟨tb,0,none⟩))] w fun e w'=>e=.returned (.bool true)∧w'.cell? ⟨tb,0,none⟩=some (.int .i64 p)∧w'.cell? ⟨tb,1,none⟩=some (.int .i64 c)∧Exc (fun k=>k=tb) w w':=by
 have h1:=@run_callFunc_extern Tryz.prog 157 _ (fun args=>ReflectliteValue.unpack (args.getD 0 (.tuple #[]))) Tryz.func157 (by kernel_rfl) (by kernel_rfl) (by kernel_rfl) (by kernel_rfl)
 have h2 := @run_callFunc_extern Tryz.prog 158 _ (ReflectliteValue.methodAny (ReflectliteValue.valueError "reflectlite.Value.Type" 0) (fun t _ _ _ => ReflectliteType.toType t)) Tryz.func158 (by kernel_rfl) (by kernel_rfl) (by kernel_rfl) (by kernel_rfl)
 have h3 := @run_callFunc_extern Tryz.prog 159 _ (ReflectliteValue.method (ReflectliteValue.valueError "reflectlite.Value.IsNil" 0) ReflectliteValue.isNil) Tryz.func159 (by kernel_rfl) (by kernel_rfl) (by kernel_rfl) (by kernel_rfl)
 have h4:=@run_callFunc_extern Tryz.prog 251 _ (ReflectliteType.abiMethod fun t=>do pure (.int .u8 (← Rtype.kind t))) Tryz.func251 (by kernel_rfl) (by kernel_rfl) (by kernel_rfl) (by kernel_rfl)
 have h5:=@run_callFunc_extern Tryz.prog 267 _ (ReflectliteType.method ReflectliteType.elem) Tryz.func267 (by kernel_rfl) (by kernel_rfl) (by kernel_rfl) (by kernel_rfl)
 have h6 := @run_callFunc_extern Tryz.prog 268 _ (ReflectliteType.relation "Implements" ReflectliteType.implements_) Tryz.func268 (by kernel_rfl) (by kernel_rfl) (by kernel_rfl) (by kernel_rfl)
 have f1:=asValueOfP
 have f2:=asTypeP
 have f3:=asMethodKind
 have f4:=asKindP
 have f5:=asKindT
 have f6:=asMethodElem
 have f7:=asElemP
 have f8:=asMethodImplements
 have f9:=asImplementsT
 have zt:=cell_lt t0
 have ze:=cell_lt he
 have hn:=fun w1=>run_eql_iface_nil_left (P:=Tryz.prog) w1 161 (.agg #[.int .i64 p,.int .i64 c]) Tryz.underlying81
 have n8:=asIsNilP ⟨w.heap.size,0,none⟩ ⟨tb,0,none⟩ ((w.alloc (.cells #[.pointer (some ⟨tb,0,none⟩)] 164)).alloc (.cells #[.pointer (some ⟨8,164,none⟩),.pointer (some ⟨w.heap.size,0,none⟩),.int .u64 150] 210)) (by go_simp)
 have hE:=alloc_keep (alloc_keep he (.cells #[.pointer (some ⟨tb,0,none⟩)] 164)) (.cells #[.pointer (some ⟨8,164,none⟩),.pointer (some ⟨w.heap.size,0,none⟩),.int .u64 150] 210)
 have hB:Below w.heap.size w ((w.alloc (.cells #[.pointer (some ⟨tb,0,none⟩)] 164)).alloc (.cells #[.pointer (some ⟨8,164,none⟩),.pointer (some ⟨w.heap.size,0,none⟩),.int .u64 150] 210)):=((Below.refl _ _).alloc (Nat.le_refl _) _).alloc (by simp) _
 go_enter Tryz.func94,Tryz.ntmps94
 go_wp2_with fail
 refine (as_fault p c tb w.heap.size u v _ (by go_simp) (cell_keep hB t0) (cell_keep hB t1) (fun j=>(hB.frozen (p:=⟨tb,j,none⟩) zt).trans (hf j))).mono ?_
 rintro r w1 ⟨rfl,c0,c1,hx⟩
 go_wp2
 go_ret
 exact ⟨rfl,c0,c1,((Exc.refl (fun k=>k=tb) w).below hB).trans hx⟩
def ErrTab (w:World):Prop:=(∃ a,w.cell? ⟨0,0,none⟩=some (.iface 290 (.pointer (some a))))∧w.cell? ⟨1,0,none⟩=some (.iface 236 (.agg #[.pointer (some ⟨8,81,none⟩)]))
theorem ErrTab.keep {w w':World} (h:ErrTab w) (hb:Below w.heap.size w w'):ErrTab w':=⟨h.1.elim fun a ha=>⟨a,cell_keep hb ha⟩,cell_keep hb h.2⟩
theorem faultOf_any (p c:Int) (w:World) (h:ErrTab w) :
  Calls Tryz.prog 48 #[(.iface 161 (.agg #[.int .i64 p,.int .i64 c]))] w fun e w'=>e=.returned (.tuple #[.int .i64 p,.int .i64 c])∧Below w.heap.size w w':=by
 obtain ⟨⟨a,ha⟩,he⟩:=h
 have za:=cell_lt ha
 go_enter Tryz.func48,Tryz.ntmps48
 go_wp2_with fail
 refine (Is_fault p c a _ (alloc_keep ha _)).mono ?_
 rintro r w1 ⟨rfl,hb1⟩
 obtain ⟨x0,x1,xf,xz,hb⟩:=fbox (hb1.mono (by simp))
 go_wp2_with fail
 refine (As_fault p c w.heap.size _ _ _ (cell_keep hb he) x0 x1 xf).mono ?_
 rintro r w2 ⟨rfl,c0,c1,hx⟩
 have hz2:=hx.size
 have hz:=cell_lt c0
 go_wp2_with fail
 go_quiet (fail)
 go_wp2
 refine bodyPost_ret (v:=.tuple #[.int .i64 p,.int .i64 c]) (by simp [results,Tryz.results48,go_sem]) rfl ?_
 exact ⟨rfl,below_drewN (hb.trans ⟨hx.os,hx.tape,hx.output,hx.size,fun k hk=>hx.block k (by have:=hb.size;omega) (by omega)⟩) _⟩
end Go.Proofs.YtikgblkfmpecfaaGreatDoor
