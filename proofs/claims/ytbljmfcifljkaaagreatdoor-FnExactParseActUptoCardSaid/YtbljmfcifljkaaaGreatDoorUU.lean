/-
  The reference's l1Num: the decimal numeral. Own work.
-/
import Derived.Test.YtbljmfcifljkaaaGreatDoorUT
import Derived.Test.YtbljmfcifljkaaaGreatDoorUC
import Derived.Test.YtbljmfcifljkaaaGreatDoorUA
import Derived.Laws.IdiomStrings
import Derived.Deep.RegionWith
import Derived.Lib.LaidTab
import Derived.Lib.AppendIntMem
import Derived.Stop.LaidErr
set_option linter.all false
set_option maxRecDepth 100000
set_option maxHeartbeats 8000000
namespace Go.Proofs.YtbljmfcifljkaaaGreatDoor
open Go.RowKit
end Go.Proofs.YtbljmfcifljkaaaGreatDoor
/-
  The reference's l1Num at numbers of several digits. Own work.
-/
namespace Go.Proofs.YtbljmfcifljkaaaGreatDoor
open Go.RowKit
end Go.Proofs.YtbljmfcifljkaaaGreatDoor
/-
  Numerals of whole numbers, the program's (Itoa) and the reference's (l1Num), without the texts of leaves. Own work.
-/
namespace Go.Proofs.YtbljmfcifljkaaaGreatDoor
open Go.RowKit
def PowTab (w : World) : Prop := Lib.TabIs Tryz.prog w "internal/strconv.uint64pow10" .u64 Lib.pow10Tab
theorem gPow : Tryz.prog.globalNamed "internal/strconv.uint64pow10" = some 3 := by kernel_rfl
theorem PowTab.keep {w w':World} (hb:Below w.heap.size w w') (h:PowTab w):PowTab w':=by
 unfold PowTab Lib.TabIs World.var? at *
 simp only [gPow,Option.bind_some] at h ⊢
 have hlt:3<w.heap.size:=by
  rcases Nat.lt_or_ge 3 w.heap.size with h'|h'
  ·exact h'
  ·rw [Array.getElem?_eq_none h'] at h;simp at h
 rw [hb.block _ hlt]
 exact h
theorem itoaBig_any (v:Int) (w:World) (ht:PowTab w) (h0:0≤v) (h1:v≤1000000) :
  Calls Tryz.prog 92 #[.int .i64 v] w fun e w'=>e=.returned (.string (numT v))∧Below w.heap.size w w' :=
 (Tryz.strconv_Itoa v (by omega) (by omega) w ht).mono fun e w' ⟨h,k,os,hw⟩=>⟨by rw [h];unfold numT Lib.itoa;rw [if_neg (by omega)],by rw [hw];exact Lib.below_grow _ _ (Nat.le_refl _) _ _⟩
theorem gPowType:(Tryz.prog.globals[3]?).map (·.type)=some 366:=by kernel_rfl
theorem cellsPow:Tryz.prog.cellsOf 366=20:=by kernel_rfl
theorem cellsU64:Tryz.prog.cellsOf 327=1:=by kernel_rfl
theorem powTab_of {W : World} {rest : List (String × DataW Unit)} (h : laidMet Tryz.prog (("internal/strconv.uint64pow10", Lib.tabData .u64 Lib.pow10Tab) :: rest) W) : PowTab W :=
 Lib.tabIs_of_head gPow gPowType Tryz.underlying366 Tryz.underlying327 cellsU64 cellsPow h
end Go.Proofs.YtbljmfcifljkaaaGreatDoor
