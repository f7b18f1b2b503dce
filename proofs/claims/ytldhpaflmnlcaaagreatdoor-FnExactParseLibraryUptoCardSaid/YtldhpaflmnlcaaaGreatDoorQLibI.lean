/-
  The program's ParseLibrary. Own work.
-/
import Derived.Test.YtldhpaflmnlcaaaGreatDoorQLibS
import Derived.Test.YtldhpaflmnlcaaaGreatDoorQLibW
import Derived.Test.YtldhpaflmnlcaaaGreatDoorQCC
set_option linter.all false
namespace Go.Proofs.YtldhpaflmnlcaaaGreatDoor
open Go.RowKit
def strLen : Value → Nat
 | .string t => t.size
 | _ => 0
theorem bytes_of_str (t : ByteArray) : bytesOf t.data.toList = t := by unfold bytesOf; cases t; rfl
theorem libGo_cons {L : List Df} {x : List UInt8} {ps : List (List UInt8)} (h : ps ≠ []) : libGo L (x :: ps) = if L.length = 12 then none else match defL L (bytesOf x) with
  | none => none
  | some d => libGo (L ++ [d]) ps := by
 cases ps with
 | nil => exact absurd rfl h
 | cons y r => rfl
def LibSt (s : ByteArray) (w wr : World) (v : Value) (t : ByteArray) (xs : List (Df × Value)) : Prop :=
 DfsRow wr w.heap.size v xs ∧ good (xs.map Prod.fst) = true ∧ t.size ≤ s.size ∧ Hid (libL s = libGo (xs.map Prod.fst) (splitB 10 [] t.data.toList)) ∧ Below w.heap.size w wr
set_option maxRecDepth 100000 in
set_option maxHeartbeats 1500000 in
theorem implParseLib_any (s : ByteArray) (w : World) (ht : CutTab w) (hs : s.size ≤ 4194304) :
  Calls Tryz.prog 26 #[.string s] w (LibR ((libL s).getD []) (libL s).isSome w) := by
 by_cases h4 : s.size ≤ 40000
 ·have g4 : ¬ (40000 : Int) < s.size := by omega
  have H0 : Hid (libL s = libGo [] (splitB 10 [] s.data.toList)) := (show _ = _ by unfold libL; rw [if_neg (by omega)])
  go_enter Tryz.func26, Tryz.ntmps26
  go_wp2
  go_loopw [0, 4] (fun sv v wr => ∃ (t : ByteArray) (xs : List (Df × Value)), sv = .string t ∧ LibSt s w wr v t xs) (fun sv _ _ => strLen sv)
  case atStart => exact ⟨s, [], rfl, row_made w, by decide, Nat.le_refl _, H0, alloc_below _ _⟩
  case round =>
   obtain ⟨t, xs, rfl, hrow, hgd, hts, HG, hbel⟩ := hrel
   have hsz := hbel.size
   obtain ⟨ao, cp, rfl⟩ := hrow.shape _ rfl
   by_cases hte : t = ⟨#[]⟩
   ·subst hte
    have HE : Hid (libL s = some (xs.map Prod.fst)) := (show _ = _ by rw [HG.out]; rfl)
    clear HG
    go_wp2
    go_ret2
    rw [HE.out]
    exact ⟨_, rfl, hrow.own, hbel⟩
   ·have hlen := good_len hgd
    simp only [List.length_map] at hlen
    obtain ⟨hLo, hLn⟩ : (∀ x ∈ xs.map Prod.fst, DfOk x) ∧ (xs.map Prod.fst).length ≤ 1048576 := goodLib_okP hgd
    have htz : t.size ≤ 4194304 := by omega
    have hne : t.data.toList ≠ [] := fun e => hte (by cases t; simp at e; simp [e])
    have tNil : t.toList.isEmpty = false := by have : ¬ t.toList = [] := fun e => hte ((toList_nil_iff_emptyBytes _).1 e); simpa using this
    have HGD := Lib.hid hgd
    rcases cut_split 10 t.data.toList with ⟨hc, hno⟩ | ⟨x, r, hxr, hno, hc⟩
    ·have HE : Hid (libL s = none) := (show _ = _ by rw [HG.out, splitB_none 10 _ [] hno]; simp [libGo, hne])
     have HC := Lib.hid hc
     clear HG hc hne hno hgd hte
     go_wp2_with (first | (go_at_call 75; refine (cut_no (ht.keep hbel) htz HC.out).mono ?_; rintro e w1 ⟨rfl, hb1⟩) | (go_at_call 19; refine (implParseDef_any _ _ t _ (hrow.at.keep hb1) hLn hLo htz).mono ?_; rintro e w2 ⟨v2, rfl, ho2, hb2⟩; obtain ⟨a2, c2, rfl⟩ := ho2.slice; have hB2 := hbel.trans ((hb1.trans (hb2.mono hb1.size)).mono hsz)))
     go_ret2
     rw [HE.out]
     exact ⟨_, rfl, dfsOwn_none _ _, hB2.alloc hB2.size _⟩
    ·have hsp : splitB 10 [] t.data.toList = x :: splitB 10 [] r := by have := splitB_some 10 _ x r [] hxr hno; simpa using this
     have hgo := libGo_cons (L := xs.map Prod.fst) (x := x) (splitB_ne 10 r [])
     have hl0 := congrArg List.length hxr
     have hxz : (bytesOf x).size ≤ 4194304 := by rw [bytes_size]; simp at hl0; omega
     have hrz : (bytesOf r).size < t.size := by rw [bytes_size]; simp at hl0; omega
     have hr2 : (bytesOf r).data.toList = r := by simp [bytesOf]
     rw [← hsp, ← HG.out] at hgo
     have hrd : readD (xs.map Prod.fst) (bytesOf x) = defL (xs.map Prod.fst) (bytesOf x) := by unfold readD; rw [if_pos hgd]
     have hpd := fun (w1 : World) (v1 : Value) (h1 : DfsAt w1 v1 (xs.map Prod.fst)) => implParseDef_any v1 _ (bytesOf x) w1 h1 hLn hLo hxz
     rw [hrd] at hpd
     have HC := Lib.hid hc
     simp only [List.length_map] at hgo
     clear HG hc hne hno hxr hsp hrd hl0 hte
     cases hd : defL (xs.map Prod.fst) (bytesOf x) with
     | none =>
      have HE : Hid (libL s = none) := (show _ = _ by rw [hgo, hd]; simp)
      rw [hd] at hpd
      clear hgo hd hgd hrz hr2 hxz
      go_wp2_with (first | (go_at_call 75; refine (cut_yes (ht.keep hbel) htz HC.out).mono ?_; rintro e w1 ⟨rfl, hb1⟩) | (go_at_call 19; refine (hpd _ _ (hrow.at.keep hb1)).mono ?_; rintro e w2 ⟨v2, rfl, ho2, hb2⟩; obtain ⟨a2, c2, rfl⟩ := ho2.slice; have hB2 := hbel.trans ((hb1.trans (hb2.mono hb1.size)).mono hsz)))
      go_ret2
      rw [HE.out]
      exact ⟨_, rfl, dfsOwn_none _ _, hB2.alloc hB2.size _⟩
     | some d =>
      rw [hd] at hpd hgo
      by_cases h12 : xs.length = 12
      ·have HE : Hid (libL s = none) := (show _ = _ by rw [hgo, if_pos h12])
       have hrow12 : DfsRow wr w.heap.size (.slice ao 12 cp) xs := by rw [← h12]; exact hrow
       rw [h12]
       have HH := Lib.hid hrow
       clear hgo hd hgd hrz hr2 hxz h12 hrow hlen
       go_wp2_with (first | (go_at_call 75; refine (cut_yes (ht.keep hbel) htz HC.out).mono ?_; rintro e w1 ⟨rfl, hb1⟩) | (go_at_call 19; refine (hpd _ _ (hrow12.at.keep hb1)).mono ?_; rintro e w2 ⟨v2, rfl, ho2, hb2⟩; obtain ⟨a2, c2, rfl⟩ := ho2.slice; have hB2 := hbel.trans ((hb1.trans (hb2.mono hb1.size)).mono hsz)))
       go_ret2
       rw [HE.out]
       exact ⟨_, rfl, dfsOwn_none _ _, hB2.alloc hB2.size _⟩
      ·rw [if_neg h12] at hgo
       have HS : Hid (libL s = libGo ((xs.map Prod.fst) ++ [d]) (splitB 10 [] (bytesOf r).data.toList)) := (show _ = _ by rw [hgo, hr2])
       have hgd2 := defL_good hgd (by simp; omega) hd
       have hxl : xs.length ≤ 1048576 := by omega
       have g12 : ¬ (xs.length : Int) = 12 := by omega
       have HG2 := Lib.hid hgd2
       have HRZ := Lib.hid hrz
       clear hgo hd hgd hrz hr2 hxz hgd2
       go_wp2_with (first | (go_at_call 75; refine (cut_yes (ht.keep hbel) htz HC.out).mono ?_; rintro e w1 ⟨rfl, hb1⟩) | (go_at_call 19; refine (hpd _ _ (hrow.at.keep hb1)).mono ?_; rintro e w2 ⟨v2, rfl, ho2, hb2⟩; simp only [Option.getD_some] at ho2 ⊢; obtain ⟨a2, c2, rfl⟩ := ho2.slice; have hb12 := hb1.trans (hb2.mono hb1.size); have hap := dfs_apart hrow ho2 hb1.size; have hrow2 := hrow.keep hb12; have hz12 := hb12.size; have hz1 := hb1.size) | (at_builtin; go_must (refine def_append (w := w2.alloc (.cells #[.string d.name, .int .i64 d.inn, .int .i64 d.out, .slice a2 d.body.length c2] 28)) (vb := Value.slice a2 d.body.length c2) (d := d) rfl (.tmp 39) (.tmp 41) rfl w.heap.size (Value.slice ao xs.length cp) xs (w2.heap.size + 1) ?e1 rfl rfl (hrow2.keep (alloc_below _ _)) ((ho2.keep (alloc_below _ _)).mono ?e2) hap ?e3 hxl ?e4; (case e1 => simp); (case e2 => omega); (case e3 => simp; omega); intro v' w' h1 h2 h3; have hbel' := row_below hrow hbel hb12 h2; clear h2 h3)))
       go_roundw
       case rel => exact ⟨bytesOf r, _, rfl, h1, by simpa using HG2.out, by have := HRZ.out; omega, (by simpa using HS), hbel'⟩
       case measure => have := HRZ.out; simp [strLen]; omega
 ·have g4 : (40000 : Int) < s.size := by omega
  have HE : Hid (libL s = none) := (show _ = _ by unfold libL; rw [if_pos (by omega)])
  go_enter Tryz.func26, Tryz.ntmps26
  go_wp2
  go_ret2
  rw [HE.out]
  exact ⟨_, rfl, dfsOwn_none _ _, Below.refl _ _⟩
end Go.Proofs.YtldhpaflmnlcaaaGreatDoor
