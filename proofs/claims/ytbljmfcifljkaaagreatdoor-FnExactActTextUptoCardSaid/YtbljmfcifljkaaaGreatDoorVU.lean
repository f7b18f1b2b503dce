/-
  The reference's l1Num: the decimal numeral. Own work.
-/
import Derived.Test.YtbljmfcifljkaaaGreatDoorVT
import Derived.Test.YtbljmfcifljkaaaGreatDoorVC
import Derived.Test.YtbljmfcifljkaaaGreatDoorVA
import Derived.Laws.IdiomStrings
import Derived.Deep.RegionWith
import Derived.Lib.LaidTab
import Derived.Lib.AppendIntMem
import Derived.Stop.LaidErr
set_option linter.all false
set_option maxRecDepth 100000
set_option maxHeartbeats 8000000
namespace Go.Proofs.YtbljmfcifljkaaaGreatDoor
open Go.RowKit
theorem mdig_nat (m:Nat):(mdig m).toNat=48+m % 10:=by
 unfold mdig
 have h:(48+m % 10)<256:=by omega
 rw [UInt8.toNat_ofNat_of_lt' h]
theorem conv_byte (W:World) (b m:Nat) (hc:W.cell? ⟨b,0,none⟩=some (.int .u8 (48+(m:Int) % 10))):(convert 142 9 (.slice (some ⟨b,0,none⟩) 1 1)).run Tryz.prog W=.ok (.string ⟨#[mdig m]⟩) W:=by
 have:=run_convert_bytes_back (P:=Tryz.prog) W 142 9 5 ⟨b,0,none⟩ 1 [mdig m] Tryz.underlying142 Tryz.underlying5 Tryz.underlying9 (by
  intro j hj
  have:j=0:=by simpa using hj
  subst this
  simp [Addr.add,hc,mdig_nat])
 simpa using this
theorem l1Num_small (n:Nat) (w:World) (h:n<10) :
  Calls Tryz.prog 121 #[.int .i64 n] w fun e w'=>e=.returned (.string ⟨(Lib.decDigits n).toArray⟩)∧Below w.heap.size w w':=by
 have h1:((n:Int)<10):=by omega
 have hcv:=conv_byte (w.alloc (.cells #[.int .u8 (48+(n:Int))] 5)) w.heap.size n (by simp;omega)
 have HR:Hid (Lib.decDigits n=[mdig n]):=(show _=_ by rw [Lib.decDigits,dif_pos h,mdig,Nat.mod_eq_of_lt h])
 go_enter Tryz.func121,Tryz.ntmps121
 go_wp2
 go_ret
 exact ⟨by rw [HR.out];rfl,alloc_below _ _⟩
end Go.Proofs.YtbljmfcifljkaaaGreatDoor
/-
  The reference's l1Num at numbers of several digits. Own work.
-/
namespace Go.Proofs.YtbljmfcifljkaaaGreatDoor
open Go.RowKit
theorem l1Num_big (n:Nat) (w:World) (h:10≤n) (h2:n≤1000000) (hs:(Lib.decDigits (n / 10)).length≤100) (ih:∀ w,Calls Tryz.prog 121 #[.int .i64 ((n / 10:Nat):Int)] w fun e w'=>e=.returned (.string ⟨(Lib.decDigits (n / 10)).toArray⟩)∧Below w.heap.size w w') :
  Calls Tryz.prog 121 #[.int .i64 n] w fun e w'=>e=.returned (.string ⟨(Lib.decDigits n).toArray⟩)∧Below w.heap.size w w':=by
 have h1:¬ ((n:Int)<10):=by omega
 have hcv:=fun W b=>conv_byte W b n
 have HR:Hid (Lib.decDigits n=Lib.decDigits (n / 10) ++ [mdig n]):=(show _=_ by rw [Lib.decDigits,dif_neg (by omega),mdig])
 have ih':∀ w,Calls Tryz.prog 121 #[.int .i64 ((n:Int) / 10)] w fun e w'=>e=.returned (.string ⟨(Lib.decDigits (n / 10)).toArray⟩)∧Below w.heap.size w w':=fun w=>by have:=ih w;rwa [Int.natCast_ediv] at this
 have hn0:(0:Int)≤n:=by omega
 have e1:IntKind.i64.wrap ((n:Int) / 10)=(n:Int) / 10:=IntWalk.i64_in _ (by omega)
 have e2:(n:Int).tmod 10=(n:Int) % 10:=Int.tmod_eq_emod_of_nonneg (by omega)
 have e3:IntKind.i64.wrap (48+(n:Int) % 10)=48+(n:Int) % 10:=IntWalk.i64_in _ (by omega)
 have e4:IntKind.u8.wrap (48+(n:Int) % 10)=48+(n:Int) % 10:=IntWalk.u8_in _ (by omega)
 have hcd:∀ (W:World),(convert 142 9 (.slice (some ⟨W.heap.size,0,none⟩) 1 1)).run Tryz.prog (W.alloc (.cells #[.int .u8 (48+(n:Int) % 10)] 5))=.ok (.string ⟨#[mdig n]⟩) (W.alloc (.cells #[.int .u8 (48+(n:Int) % 10)] 5)):=fun W=>conv_byte _ _ n (by simp)
 have n1:¬ 9223372036854775807<(Lib.decDigits (n / 10)).length+1:=by omega
 clear hcv
 have hcv:=fun W b=>conv_byte W b n
 go_enter Tryz.func121,Tryz.ntmps121
 go_wp2_with fail
 go_region_with ((go_at_call 121;refine (ih' _).mono ?_;rintro e w1 ⟨rfl,hb1⟩;obtain ⟨hc1,hf1,hs1⟩:=bcell hb1;simp only [World.size_alloc,World.size_drew] at hb1 hc1 hf1 hs1))
 all_goals
  go_wp2
  go_ret
  refine ⟨by first|(rw [HR.out];done)|(rw [HR.out];rfl),?_⟩
  first|exact ((Below.refl _ _).drew.trans (hb1.mono (by simp)))|exact ((Below.refl _ _).drew.trans (hb1.mono (by simp))).alloc (by omega) _|exact ((alloc_below w _).drew.trans (hb1.mono (by omega)))|(refine Below.trans ?_ (Below.mono hb1 (by omega));repeat (first|exact Below.refl _ _|with_reducible refine Below.drew ?_|refine Below.alloc ?_ (by simp <;> omega) _))|(repeat (first|exact (Below.refl _ _).drew.trans (hb1.mono (by omega))|with_reducible refine Below.drew ?_|refine Below.alloc ?_ (by simp <;> omega) _))
end Go.Proofs.YtbljmfcifljkaaaGreatDoor
/-
  Numerals of whole numbers, the program's (Itoa) and the reference's (l1Num), without the texts of leaves. Own work.
-/
namespace Go.Proofs.YtbljmfcifljkaaaGreatDoor
open Go.RowKit
theorem dec_len (n:Nat) (h:n≤1000000):(Lib.decDigits n).length≤8:=by
 by_cases h1:n<10
 ·rw [Lib.decDigits,dif_pos h1];simp
 rw [Lib.decDigits,dif_neg h1,List.length_append]
 by_cases h2:n / 10<10
 ·rw [Lib.decDigits,dif_pos h2];simp
 rw [Lib.decDigits,dif_neg h2,List.length_append]
 by_cases h3:n / 10 / 10<10
 ·rw [Lib.decDigits,dif_pos h3];simp
 rw [Lib.decDigits,dif_neg h3,List.length_append]
 by_cases h4:n / 10 / 10 / 10<10
 ·rw [Lib.decDigits,dif_pos h4];simp
 rw [Lib.decDigits,dif_neg h4,List.length_append]
 by_cases h5:n / 10 / 10 / 10 / 10<10
 ·rw [Lib.decDigits,dif_pos h5];simp
 rw [Lib.decDigits,dif_neg h5,List.length_append]
 by_cases h6:n / 10 / 10 / 10 / 10 / 10<10
 ·rw [Lib.decDigits,dif_pos h6];simp
 rw [Lib.decDigits,dif_neg h6,List.length_append,Lib.decDigits,dif_pos (by omega)]
 simp
theorem l1Num_any (n:Nat):∀ (w:World),n≤1000000 → Calls Tryz.prog 121 #[.int .i64 n] w fun e w'=>e=.returned (.string ⟨(Lib.decDigits n).toArray⟩)∧Below w.heap.size w w':=by
 induction n using Nat.strongRecOn with
 | _ n ih =>
  intro w h
  by_cases h1:n<10
  ·exact l1Num_small n w h1
  ·exact l1Num_big n w (by omega) h (by have:=dec_len (n / 10) (by omega);omega) fun w=>ih (n / 10) (by omega) w (by omega)
def PowTab (w : World) : Prop := Lib.TabIs Tryz.prog w "internal/strconv.uint64pow10" .u64 Lib.pow10Tab
theorem gPow : Tryz.prog.globalNamed "internal/strconv.uint64pow10" = some 3 := by kernel_rfl
theorem PowTab.keep {w w':World} (hb:Below w.heap.size w w') (h:PowTab w):PowTab w':=by
 unfold PowTab Lib.TabIs World.var? at *
 simp only [gPow,Option.bind_some] at h ⊢
 have hlt:3<w.heap.size:=by
  rcases Nat.lt_or_ge 3 w.heap.size with h'|h'
  ·exact h'
  ·rw [Array.getElem?_eq_none h'] at h;simp at h
 rw [hb.block _ hlt]
 exact h
theorem itoaBig_any (v:Int) (w:World) (ht:PowTab w) (h0:0≤v) (h1:v≤1000000) :
  Calls Tryz.prog 92 #[.int .i64 v] w fun e w'=>e=.returned (.string (numT v))∧Below w.heap.size w w' :=
 (Tryz.strconv_Itoa v (by omega) (by omega) w ht).mono fun e w' ⟨h,k,os,hw⟩=>⟨by rw [h];unfold numT Lib.itoa;rw [if_neg (by omega)],by rw [hw];exact Lib.below_grow _ _ (Nat.le_refl _) _ _⟩
theorem gPowType:(Tryz.prog.globals[3]?).map (·.type)=some 366:=by kernel_rfl
theorem cellsPow:Tryz.prog.cellsOf 366=20:=by kernel_rfl
theorem cellsU64:Tryz.prog.cellsOf 327=1:=by kernel_rfl
theorem powTab_of {W : World} {rest : List (String × DataW Unit)} (h : laidMet Tryz.prog (("internal/strconv.uint64pow10", Lib.tabData .u64 Lib.pow10Tab) :: rest) W) : PowTab W :=
 Lib.tabIs_of_head gPow gPowType Tryz.underlying366 Tryz.underlying327 cellsU64 cellsPow h
end Go.Proofs.YtbljmfcifljkaaaGreatDoor
