/-
  The reference's ParseLibrary. Own work.
-/
import Derived.Test.YtldhpaflmnlcaaaGreatDoorQSpl
import Derived.Test.YtldhpaflmnlcaaaGreatDoorQGG
import Derived.Test.YtldhpaflmnlcaaaGreatDoorQHp
set_option linter.all false
namespace Go.Proofs.YtldhpaflmnlcaaaGreatDoor
open Go.RowKit
theorem splitB_each (b : UInt8) : ∀ (l acc p : List UInt8), p ∈ splitB b acc l → p.length ≤ acc.length + l.length
 | [], acc, p, h => by simp [splitB] at h; subst h; simp
 | c :: l, acc, p, h => by
  unfold splitB at h
  split at h
  ·rcases List.mem_cons.1 h with rfl | h
   ·simp
   ·have := splitB_each b l [] p h; simp at this ⊢; omega
  ·have := splitB_each b l _ p h; simp at this ⊢; omega
theorem bytes_size (l : List UInt8) : (bytesOf l).size = l.length := by simp [bytesOf, ByteArray.size]
theorem bytes_none (l : List UInt8) : (bytesOf l = ⟨#[]⟩) ↔ l = [] := by
 constructor
 ·intro h; have := congrArg ByteArray.size h; rw [bytes_size] at this; exact List.eq_nil_of_length_eq_zero this
 ·rintro rfl; rfl
theorem libL_fold {s : ByteArray} {P : List (List UInt8)} (hP : splitB 10 [] s.data.toList = P) : libL s = if s.size ≤ 40000 ∧ P.getLast? = some [] ∧ P.length ≤ 13 then foldL [] P.dropLast else none := by
 have hne : P ≠ [] := by rw [← hP]; exact splitB_ne _ _ _
 unfold libL
 rw [hP, libGo_fold P [] hne (by simp)]
 simp only [List.length_nil, Nat.add_zero]
 by_cases h : s.size ≤ 40000
 ·rw [if_neg (by omega)]
  simp [h]
 ·rw [if_pos (by omega), if_neg (fun x => h x.1)]
theorem foldL_step {L : List Df} {Q : List (List UInt8)} {k : Nat} (h : k < Q.length) : foldL L (Q.drop k) = match defL L (bytesOf Q[k]) with
  | none => none
  | some d => foldL (L ++ [d]) (Q.drop (k + 1)) := by
 rw [List.drop_eq_getElem_cons h]
 rfl
theorem row_made (w : World) : DfsRow (w.alloc (.cells #[] 28)) w.heap.size (.slice (some ⟨w.heap.size, 0, none⟩) 0 0) [] := by
 refine ⟨?_, by simp, List.Pairwise.nil⟩
 have := World.ownsRow_made (base := w.heap.size) (size := 4) (e := 28) w #[] 0 (Nat.le_refl _) (by unfold maxLen; omega) rfl
 simpa using this
theorem row_none (w : World) (B : Nat) : DfsRow w B (.slice none 0 0) [] := ⟨⟨by simp, .inl ⟨rfl, rfl⟩⟩, by simp, List.Pairwise.nil⟩
def LbrSt (s : ByteArray) (P : List (List UInt8)) (w1 wr : World) (v : Value) (xs : List (Df × Value)) (k : Nat) : Prop :=
 DfsRow wr w1.heap.size v xs ∧ good (xs.map Prod.fst) = true ∧ xs.length = k ∧ Hid (libL s = foldL (xs.map Prod.fst) (P.dropLast.drop k)) ∧ Below w1.heap.size w1 wr
set_option maxRecDepth 100000 in
set_option maxHeartbeats 4000000 in
theorem specLib_long (s : ByteArray) (P : List (List UInt8)) (m : Nat) (w : World) (hs : s.size ≤ 4194304) (hPl : P.length ≤ s.size + 1) (hPe : ∀ p ∈ P, p.length ≤ s.size) (hm : P.length = m + 1)
  (hsp : ∀ w, Calls Tryz.prog 74 #[.string s, .int .u8 10] w fun e w' => ∃ v, e = .returned v ∧ PartsOwn w' w.heap.size v P ∧ Below w.heap.size w w')
  (g4 : (40000 : Int) < s.size) (HE : Hid (libL s = none)) :
  Calls Tryz.prog 25 #[.string s] w (LibR ((libL s).getD []) (libL s).isSome w) := by
 go_enter Tryz.func25, Tryz.ntmps25
 go_wp2_with (go_at_call 74; refine (hsp _).mono ?_; rintro e w1 ⟨v1, rfl, ho1, hb1⟩; obtain ⟨a1, c1, rfl⟩ := owns_shape' ho1)
 go_ret2
 rw [HE.out]
 exact ⟨_, rfl, dfsOwn_none _ _, hb1⟩
set_option maxRecDepth 100000 in
set_option maxHeartbeats 4000000 in
theorem specLib_last (s : ByteArray) (P : List (List UInt8)) (m : Nat) (w : World) (hs : s.size ≤ 4194304) (hPl : P.length ≤ s.size + 1) (hPe : ∀ p ∈ P, p.length ≤ s.size) (hm : P.length = m + 1)
  (hsp : ∀ w, Calls Tryz.prog 74 #[.string s, .int .u8 10] w fun e w' => ∃ v, e = .returned v ∧ PartsOwn w' w.heap.size v P ∧ Below w.heap.size w w')
  (g4 : ¬ (40000 : Int) < s.size) (hbl : bytesOf (P[m]'(by omega)) ≠ ⟨#[]⟩) (HE : Hid (libL s = none)) :
  Calls Tryz.prog 25 #[.string s] w (LibR ((libL s).getD []) (libL s).isSome w) := by
 have hw1 : IntKind.i64.wrap ((m : Int) + 1 - 1) = (m : Int) := by rw [show (m : Int) + 1 - 1 = m by omega]; exact IntWalk.i64_in _ (by omega)
 have hw2 : IntKind.i64.wrap (m : Int) = (m : Int) := IntWalk.i64_in _ (by omega)
 go_enter Tryz.func25, Tryz.ntmps25
 go_wp2_with fail
 refine (hsp _).mono ?_
 rintro e w1 ⟨v1, rfl, ho1, hb1⟩
 obtain ⟨a1, c1, rfl, hc1, hat⟩ := ho1.at
 rw [hm] at hc1 ⊢
 obtain ⟨b1, o1, rfl, _, hlc⟩ := hat m (by omega)
 rw [Nat.mul_one] at hlc
 obtain ⟨q, hq⟩ : ∃ q, bytesOf (P[m]'(by omega)) = q := ⟨_, rfl⟩
 rw [hq] at hlc hbl
 have hqn : ¬ q.toList = [] := fun e => hbl ((toList_nil_iff_emptyBytes _).1 e)
 clear hat ho1 hq
 go_wp2
 go_ret2
 rw [HE.out]
 exact ⟨_, rfl, dfsOwn_none _ _, hb1⟩
set_option maxRecDepth 100000 in
set_option maxHeartbeats 4000000 in
theorem specLib_many (s : ByteArray) (P : List (List UInt8)) (m : Nat) (w : World) (hs : s.size ≤ 4194304) (hPl : P.length ≤ s.size + 1) (hPe : ∀ p ∈ P, p.length ≤ s.size) (hm : P.length = m + 1)
  (hsp : ∀ w, Calls Tryz.prog 74 #[.string s, .int .u8 10] w fun e w' => ∃ v, e = .returned v ∧ PartsOwn w' w.heap.size v P ∧ Below w.heap.size w w')
  (g4 : ¬ (40000 : Int) < s.size) (hbl : bytesOf (P[m]'(by omega)) = ⟨#[]⟩) (g13 : (13 : Int) < (m : Int) + 1) (HE : Hid (libL s = none)) :
  Calls Tryz.prog 25 #[.string s] w (LibR ((libL s).getD []) (libL s).isSome w) := by
 have hw1 : IntKind.i64.wrap ((m : Int) + 1 - 1) = (m : Int) := by rw [show (m : Int) + 1 - 1 = m by omega]; exact IntWalk.i64_in _ (by omega)
 have hw2 : IntKind.i64.wrap (m : Int) = (m : Int) := IntWalk.i64_in _ (by omega)
 go_enter Tryz.func25, Tryz.ntmps25
 go_wp2_with fail
 refine (hsp _).mono ?_
 rintro e w1 ⟨v1, rfl, ho1, hb1⟩
 obtain ⟨a1, c1, rfl, hc1, hat⟩ := ho1.at
 rw [hm] at hc1 ⊢
 obtain ⟨b1, o1, rfl, _, hlc⟩ := hat m (by omega)
 rw [hbl, Nat.mul_one] at hlc
 clear hat ho1
 go_wp2
 go_ret2
 rw [HE.out]
 exact ⟨_, rfl, dfsOwn_none _ _, hb1⟩
set_option maxRecDepth 100000 in
set_option maxHeartbeats 8000000 in
theorem specLib_loop (s : ByteArray) (P : List (List UInt8)) (m : Nat) (w : World) (hs : s.size ≤ 4194304) (hPl : P.length ≤ s.size + 1) (hPe : ∀ p ∈ P, p.length ≤ s.size) (hm : P.length = m + 1)
  (hsp : ∀ w, Calls Tryz.prog 74 #[.string s, .int .u8 10] w fun e w' => ∃ v, e = .returned v ∧ PartsOwn w' w.heap.size v P ∧ Below w.heap.size w w')
  (g4 : ¬ (40000 : Int) < s.size) (hbl : bytesOf (P[m]'(by omega)) = ⟨#[]⟩) (g13 : ¬ (13 : Int) < (m : Int) + 1) (HE : Hid (libL s = foldL [] (P.dropLast.drop 0))) :
  Calls Tryz.prog 25 #[.string s] w (LibR ((libL s).getD []) (libL s).isSome w) := by
 have hw1 : IntKind.i64.wrap ((m : Int) + 1 - 1) = (m : Int) := by rw [show (m : Int) + 1 - 1 = m by omega]; exact IntWalk.i64_in _ (by omega)
 have hw2 : IntKind.i64.wrap (m : Int) = (m : Int) := IntWalk.i64_in _ (by omega)
 have hQ : P.dropLast.length = m := by rw [List.length_dropLast]; omega
 go_enter Tryz.func25, Tryz.ntmps25
 go_wp2_with fail
 refine (hsp _).mono ?_
 rintro e w1 ⟨v1, rfl, ho1, hb1⟩
 obtain ⟨a1, c1, rfl, hc1, hat⟩ := ho1.at
 rw [hm] at hc1 ⊢
 obtain ⟨b1, o1, rfl, _, hlc⟩ := hat m (by omega)
 rw [hbl, Nat.mul_one] at hlc
 have hcell : ∀ k (hk : k < P.length), w1.cell? ⟨b1, o1 + k, none⟩ = some (.string (bytesOf P[k])) := fun k hk => by
  obtain ⟨b2, o2, e2, _, h2⟩ := hat k hk
  simp only [Option.some.injEq, Addr.mk.injEq, and_true] at e2
  obtain ⟨rfl, rfl⟩ := e2
  rwa [Nat.mul_one] at h2
 clear hat ho1
 go_wp2
 go_loopw [5, 35] (fun v i wr => ∃ (k : Nat) (xs : List (Df × Value)), k ≤ m ∧ i = .int .i64 k ∧ LbrSt s P w1 wr v xs k) (fun _ i _ => P.length - (intOf i).toNat)
 case atStart => exact ⟨0, [], Nat.zero_le _, rfl, row_none _ _, by decide, rfl, HE, Below.refl _ _⟩
 case round =>
  obtain ⟨k, xs, hk, rfl, hrow, hgd, hxk, HG, hbel⟩ := hrel
  obtain ⟨ao, cp, rfl⟩ := hrow.shape _ rfl
  have hsz := hbel.size
  by_cases hlt : k < m
  ·have hkP : k < P.length := by omega
   have hck := cell_keep hbel (hcell k hkP)
   have hkQ : k < P.dropLast.length := by omega
   have hst := foldL_step (L := xs.map Prod.fst) hkQ
   rw [List.getElem_dropLast, ← HG.out] at hst
   have hxz : (bytesOf P[k]).size ≤ 4194304 := by rw [bytes_size]; have := hPe _ (List.getElem_mem hkP); omega
   obtain ⟨t, ht⟩ : ∃ t, bytesOf P[k] = t := ⟨_, rfl⟩
   rw [ht] at hck hst hxz
   have hpd := fun (w1 : World) (v1 : Value) (h1 : DfsAt w1 v1 (xs.map Prod.fst)) => sxReadDef_any v1 _ t w1 h1 hgd hxz
   have glt : (k : Int) < (m : Int) := by omega
   clear HG ht hcell hlc hbl
   cases hd : defL (xs.map Prod.fst) t with
   | none =>
    rw [hd] at hst hpd
    have HN : Hid (libL s = none) := hst
    have HP := Lib.hid hpd
    clear hst hd hgd hxz hpd hxk
    go_wp2_with (go_at_call 66; refine (HP.out _ _ hrow.at).mono ?_; rintro e w2 ⟨v2, rfl, ho2, hb2⟩; obtain ⟨a2, c2, rfl⟩ := ho2.slice; have hB2 := hb1.trans ((hbel.trans (hb2.mono hsz)).mono hb1.size))
    go_ret2
    rw [HN.out]
    exact ⟨_, rfl, dfsOwn_none _ _, hB2.alloc hB2.size _⟩
   | some d =>
    rw [hd] at hst hpd
    have HS : Hid (libL s = foldL ((xs.map Prod.fst) ++ [d]) (P.dropLast.drop (k + 1))) := hst
    have hgd2 := defL_good hgd (by simp; omega) hd
    have hxl : xs.length ≤ 1048576 := by omega
    have HP := Lib.hid hpd
    have HG2 := Lib.hid hgd2
    have HXK := Lib.hid hxk
    clear hst hd hgd hxz hpd hgd2 hxk
    go_wp2_with (first | (go_at_call 66; refine (HP.out _ _ hrow.at).mono ?_; rintro e w2 ⟨v2, rfl, ho2, hb2⟩; simp only [Option.getD_some] at ho2 ⊢; obtain ⟨a2, c2, rfl⟩ := ho2.slice; have hap := dfs_apart hrow ho2 (Nat.le_refl _); have hrow2 := hrow.keep hb2; have hz2 := hb2.size) | (at_builtin; go_must (refine def_append (w := w2.alloc (.cells #[.string d.name, .int .i64 d.inn, .int .i64 d.out, .slice a2 d.body.length c2] 28)) (vb := Value.slice a2 d.body.length c2) (d := d) rfl (.tmp 47) (.tmp 49) rfl w1.heap.size (Value.slice ao xs.length cp) xs (w2.heap.size + 1) ?e1 rfl rfl (hrow2.keep (alloc_below _ _)) ((ho2.keep (alloc_below _ _)).mono ?e2) hap ?e3 hxl ?e4; (case e1 => simp); (case e2 => omega); (case e3 => simp; omega); intro v' w' h1 h2 h3; have hbel' := row_below hrow hbel hb2 h2; clear h2 h3)))
    go_roundw
    case rel => exact ⟨k + 1, _, by omega, by go_num, h1, by simpa using HG2.out, by simp [HXK.out], (by simpa using HS), hbel'⟩
    case measure => simp [intOf]; omega
  ·have hkm : k = m := by omega
   subst hkm
   have HN : Hid (libL s = some (xs.map Prod.fst)) := (show _ = _ by rw [HG.out, List.drop_eq_nil_of_le (by omega)]; rfl)
   have glt : ¬ (k : Int) < (k : Int) := by omega
   clear HG hxk hbl hlc hcell hgd
   go_wp2
   go_ret2
   rw [HN.out]
   exact ⟨_, rfl, hrow.own.mono hb1.size, hb1.trans (hbel.mono hb1.size)⟩
theorem specParseLib_any (s : ByteArray) (w : World) (hs : s.size ≤ 4194304) :
  Calls Tryz.prog 25 #[.string s] w (LibR ((libL s).getD []) (libL s).isSome w) := by
 obtain ⟨P, hP⟩ : ∃ P, splitB 10 [] s.data.toList = P := ⟨_, rfl⟩
 have hne : P ≠ [] := by rw [← hP]; exact splitB_ne _ _ _
 have hPl : P.length ≤ s.size + 1 := by rw [← hP]; have := splitB_len 10 s.data.toList []; simpa using this
 have hPe : ∀ p ∈ P, p.length ≤ s.size := fun p hp => by rw [← hP] at hp; have := splitB_each 10 _ _ p hp; simpa using this
 have hP1 : 1 ≤ P.length := by cases P with | nil => exact absurd rfl hne | cons a r => simp
 have hlib := libL_fold hP
 have hsp := fun w => l1Split_any s 10 w hs
 rw [hP] at hsp
 rw [show (((10 : UInt8).toNat : Nat) : Int) = 10 from rfl] at hsp
 obtain ⟨m, hm⟩ : ∃ m, P.length = m + 1 := ⟨P.length - 1, by omega⟩
 have hlast : P.getLast? = some (P[m]'(by omega)) := by
  rw [List.getLast?_eq_getElem?]
  simp only [hm, Nat.add_sub_cancel]
  rw [List.getElem?_eq_getElem]
 by_cases h4 : s.size ≤ 40000
 ·by_cases hl : P[m]'(by omega) = []
  ·by_cases h13 : P.length ≤ 13
   ·exact specLib_loop s P m w hs hPl hPe hm hsp (by omega) ((bytes_none _).2 hl) (by omega) (show _ = _ by rw [hlib, if_pos ⟨h4, by rw [hlast, hl], h13⟩]; rfl)
   ·exact specLib_many s P m w hs hPl hPe hm hsp (by omega) ((bytes_none _).2 hl) (by omega) (show _ = _ by rw [hlib, if_neg (fun x => h13 x.2.2)])
  ·exact specLib_last s P m w hs hPl hPe hm hsp (by omega) (fun e => hl ((bytes_none _).1 e)) (show _ = _ by rw [hlib, if_neg (fun x => hl (by have := x.2.1; rw [hlast] at this; exact Option.some.inj this))])
 ·exact specLib_long s P m w hs hPl hPe hm hsp (by omega) (show _ = _ by rw [hlib, if_neg (fun x => h4 x.1)])
end Go.Proofs.YtldhpaflmnlcaaaGreatDoor
