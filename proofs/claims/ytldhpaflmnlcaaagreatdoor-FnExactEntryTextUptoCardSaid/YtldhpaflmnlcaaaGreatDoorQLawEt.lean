/-
  The law of FnExactEntryText, walked. Own work, by a program of my own (lawtext.py).
-/
import Derived.Test.YtldhpaflmnlcaaaGreatDoorQX
set_option linter.all false
namespace Go.Proofs.YtldhpaflmnlcaaaGreatDoor
open Go.RowKit
set_option linter.unusedVariables false
set_option linter.unusedSimpArgs false

set_option maxRecDepth 100000 in
set_option maxHeartbeats 8000000 in
theorem lawEt_any (v vb : Value) (L : List Df) (e : En) (w : World) (hv : DfsAt w v L) (hn : L.length ≤ 1048576) (hs : ∀ x ∈ L, DfOk x) (hvb : NdsAt w vb e.body) (he : EnOk e) :
    Calls Tryz.prog 6 #[v, .agg #[.int .i64 e.kind, .string e.name, .string e.to, vb]] w fun r w' => r = .returned (.bool true) ∧ Below w.heap.size w w' := by
  obtain ⟨a, cap, rfl⟩ : ∃ a cap, v = .slice a L.length cap := by obtain ⟨a, cap, rfl, _⟩ := hv; exact ⟨a, cap, rfl⟩
  obtain ⟨ab, cb, rfl⟩ := hvb.slice
  have hLb : ∀ d ∈ L, d.body.length ≤ 1048576 := fun d hd => (hs d hd).2.2
  have hEb : e.body.length ≤ 1048576 := he.2.2.2
  obtain ⟨tx, htx⟩ : ∃ tx, (textO L e).getD ⟨#[]⟩ = tx := ⟨_, rfl⟩
  obtain ⟨ok, hok⟩ : ∃ ok, (textO L e).isSome = ok := ⟨_, rfl⟩
  have HR := Lib.hid htx
  have HOK := Lib.hid hok
  clear htx hok
  go_enter Tryz.func6, Tryz.ntmps6
  go_wp2_with fail
  refine (szDefS_any _ L _ _ (hv.keep (alloc_below _ _)) hs hn (by omega) (by omega)).mono ?_
  rintro r w1 ⟨n1, rfl, hn1, hn1', hb1⟩
  have hB1 : Below (w.heap.size + 1) (w.alloc (.cells #[.int .i64 e.kind, .string e.name, .string e.to, .slice ab e.body.length cb] 49)) w1 := hb1.mono (by simp)
  obtain ⟨x0, x1, x2, x3, z1, hB1'⟩ := box4 hB1
  by_cases hneg : n1 < 0
  · go_wp2
    go_ret
    exact ⟨rfl, hB1'⟩
  have hnn : ¬ n1 < 0 := hneg
  go_wp2_with fail
  refine (szEntry_any _ e _ _ (hvb.keep hB1') he (by omega) hn1').mono ?_
  rintro r w2 ⟨n2, rfl, hn2, hn2', hb2⟩
  have hB2 := hB1.trans (hb2.mono (by omega))
  clear x0 x1 x2 x3
  obtain ⟨x0, x1, x2, x3, z2, hB2'⟩ := box4 hB2
  by_cases hneg2 : n2 < 0
  · go_wp2
    go_ret
    exact ⟨rfl, hB2'⟩
  have hnn2 : ¬ n2 < 0 := hneg2
  go_wp2_with fail
  have up2 : ∀ {w' : World}, Exc NoT w2.drew w' → Below w2.heap.size w2 w' := fun h => (Below.refl w2.heap.size w2).drew.trans (h.toBelow.mono (by simp))
  refine region_acts (C := Exc (NoT) _) 4 [0, 1, 2, 3, 4, 5, 6, 7, 8, 9] (by kernel_rfl) (by kernel_rfl) (Exc.grows _ _) (Exc.refl _ _) ?_
  iterate 1
    refine x_still rfl rfl rfl (fun K hK => ?_)
    apply Exists.intro
    refine ⟨fun w' hw' => ?_, ?_⟩
    · obtain ⟨hc', hf', _⟩ := bcell hw'.toBelow
      try simp only [World.size_drew] at hc' hf'
      go_simp
      rfl
    go_simp
    refine hK _ _ _ ?_
    clear hK K
  refine x_call rfl rfl rfl (Exc.grows _ _) (Exc.refl _ _) 18 (fun K hK => ?_)
  apply Exists.intro
  refine ⟨fun w' hw' => ?_, fun wa hwa hbwa => ?_⟩
  · go_simp
    rfl
  refine (toDefS_any _ L _ (hv.keep (hB2'.trans ((up2 hwa).mono (by omega)))) hn hLb).mono ?_
  rintro e w3 ⟨v3, rfl, ho3, hb3⟩
  refine ⟨_, rfl, hb3, fun hx => ?_⟩
  go_simp
  refine hK _ _ _ ?_
  clear hK K
  iterate 1
    refine x_still rfl rfl rfl (fun K hK => ?_)
    apply Exists.intro
    refine ⟨fun w' hw' => ?_, ?_⟩
    · obtain ⟨hc', hf', _⟩ := bcell hw'.toBelow
      try simp only [World.size_drew] at hc' hf'
      go_simp
      rfl
    go_simp
    refine hK _ _ _ ?_
    clear hK K
  refine x_call rfl rfl rfl (Exc.grows _ _) (hx) 35 (fun K hK => ?_)
  apply Exists.intro
  refine ⟨fun w' hw' => ?_, fun wb hwb hbwb => ?_⟩
  · go_simp
    rfl
  refine (toEntry_any _ e _ (hvb.keep (hB2'.trans ((up2 hwb).mono (by omega)))) hEb).mono ?_
  rintro e w4 ⟨v4, rfl, ho4, hb4⟩
  refine ⟨_, rfl, hb4, fun hx => ?_⟩
  go_simp
  refine hK _ _ _ ?_
  clear hK K
  refine x_call rfl rfl rfl (Exc.grows _ _) (hx) 34 (fun K hK => ?_)
  apply Exists.intro
  refine ⟨fun w' hw' => ?_, fun wc hwc hbwc => ?_⟩
  · go_simp
    rfl
  refine (specText_any numOk _ _ L e _ (ho3.at.keep (hbwb.trans ((hb4.trans (hbwc.mono hb4.size)).mono hbwb.size))) hn hs (ho4.at.keep hbwc) he).mono ?_
  rintro e w5 ⟨rfl, hb5⟩
  refine ⟨_, rfl, hb5, fun hx => ?_⟩
  go_simp
  refine hK _ _ _ ?_
  clear hK K
  rw [HOK.out, HR.out]
  iterate 5
    refine x_still rfl rfl rfl (fun K hK => ?_)
    apply Exists.intro
    refine ⟨fun w' hw' => ?_, ?_⟩
    · obtain ⟨hc', hf', _⟩ := bcell hw'.toBelow
      try simp only [World.size_drew] at hc' hf'
      go_simp
      rfl
    go_simp
    refine hK _ _ _ ?_
    clear hK K
  refine x_nil ?_
  have hu5 := up2 hx
  have hB5 := hB2.trans (hu5.mono (by omega))
  clear x0 x1 x2 x3
  obtain ⟨x0, x1, x2, x3, z5, hB5'⟩ := box4 hB5
  clear hx hwa hwb hwc hbwa hbwb hbwc up2 hu5 ho3 ho4 hb3 hb4 hb5 hb2 hb1
  have hbne := bne_self_false ok
  have hsne : (tx.toList != tx.toList) = false := by simp
  have hseq : (tx.toList == tx.toList) = true := by simp
  go_wp2_with fail
  refine (toDefS_any _ L _ (hv.keep hB5') hn hLb).mono ?_
  rintro r w6 ⟨v6, rfl, ho6, hb6⟩
  have hB6 := hB5.trans (hb6.mono (by omega))
  clear x0 x1 x2 x3
  obtain ⟨x0, x1, x2, x3, z6, hB6'⟩ := box4 hB6
  go_wp2_with fail
  refine (toEntry_any _ e _ (hvb.keep hB6') hEb).mono ?_
  rintro r w7 ⟨v7, rfl, ho7, hb7⟩
  obtain ⟨a7, c7, rfl⟩ := ho7.slice
  have hB7 := hB6.trans (hb7.mono (by omega))
  clear x0 x1 x2 x3
  obtain ⟨x0, x1, x2, x3, z7, hB7'⟩ := box4 hB7
  have hat6 := ho6.at
  have hk67 : Below w6.heap.size w6 (w7.alloc (.cells #[.int .i64 e.kind, .string e.name, .string e.to, .slice a7 e.body.length c7] 54)) := hb7.alloc hb7.size _
  go_wp2_with fail
  refine (implText_any _ _ L e _ (hat6.keep hk67) hn hs (ho7.at.keep (alloc_below _ _)) he).mono ?_
  rintro r w8 ⟨rfl, hb8⟩
  rw [HOK.out, HR.out]
  have hC8 : Below (w7.heap.size + 1) (w7.alloc (.cells #[.int .i64 e.kind, .string e.name, .string e.to, .slice a7 e.body.length c7] 54)) w8 := hb8.mono (by simp)
  obtain ⟨y0, y1, y2, y3, zy, hC8'⟩ := box4 hC8
  have hB8 := hB7.trans ((hC8'.mono (by omega)))
  clear x0 x1 x2 x3
  obtain ⟨x0, x1, x2, x3, z8, hB8'⟩ := box4 hB8
  go_wp2_with fail
  refine (toDefS_any _ L _ (hv.keep hB8') hn hLb).mono ?_
  rintro r w10 ⟨v10, rfl, ho10, hb10⟩
  have hsz67 := hb7.size
  have hsz78 := hC8'.size
  have hb610 : Below w6.heap.size w6 w10 := hb7.trans ((hC8'.trans (hb10.mono hC8'.size)).mono hsz67)
  have hC10 := hC8.trans (hb10.mono (by omega))
  clear y0 y1 y2 y3
  obtain ⟨y0, y1, y2, y3, zy10, hC10'⟩ := box4 hC10
  have hB10 := hB8.trans (hb10.mono (by omega))
  clear x0 x1 x2 x3
  obtain ⟨x0, x1, x2, x3, z10, hB10'⟩ := box4 hB10
  go_wp2_with fail
  refine (eqDefS_any _ _ L L _ (hat6.keep hb610) ho10.at hn hn hLb hLb).mono ?_
  rintro r w11 ⟨rfl, hb11⟩
  rw [show decide (L = L) = true by simp]
  have hC11 := hC10.trans (hb11.mono (by omega))
  clear y0 y1 y2 y3
  obtain ⟨y0, y1, y2, y3, zy11, hC11'⟩ := box4 hC11
  have hB11 := hB10.trans (hb11.mono (by omega))
  clear x0 x1 x2 x3
  obtain ⟨x0, x1, x2, x3, z11, hB11'⟩ := box4 hB11
  go_wp2_with fail
  have up11 : ∀ {w' : World}, Exc NoT w11.drew w' → Below w11.heap.size w11 w' := fun h => (Below.refl w11.heap.size w11).drew.trans (h.toBelow.mono (by simp))
  have hsz711 := hC11'.size
  refine region_acts (C := Exc (NoT) _) 4 [0, 1, 2, 3, 4] (by kernel_rfl) (by kernel_rfl) (Exc.grows _ _) (Exc.refl _ _) ?_
  iterate 2
    refine x_still rfl rfl rfl (fun K hK => ?_)
    apply Exists.intro
    refine ⟨fun w' hw' => ?_, ?_⟩
    · obtain ⟨hc', hf', _⟩ := bcell hw'.toBelow
      try simp only [World.size_drew] at hc' hf'
      go_simp
      rfl
    go_simp
    refine hK _ _ _ ?_
    clear hK K
  refine x_call rfl rfl rfl (Exc.grows _ _) (Exc.refl _ _) 35 (fun K hK => ?_)
  apply Exists.intro
  refine ⟨fun w' hw' => ?_, fun wa hwa hbwa => ?_⟩
  · go_simp
    rfl
  refine (toEntry_any _ e _ (hvb.keep (hB11'.trans ((up11 hwa).mono (by omega)))) hEb).mono ?_
  rintro e w12 ⟨v12, rfl, ho12, hb12⟩
  refine ⟨_, rfl, hb12, fun hx => ?_⟩
  go_simp
  refine hK _ _ _ ?_
  clear hK K
  refine x_call rfl rfl rfl (Exc.grows _ _) (hx) 37 (fun K hK => ?_)
  apply Exists.intro
  refine ⟨fun w' hw' => ?_, fun wb hwb hbwb => ?_⟩
  · go_simp
    rfl
  refine (eqEntry_any _ _ e e _ ((ho7.at.keep hC11').keep (up11 hwb)) (ho12.at.keep hbwb) hEb hEb).mono ?_
  rintro e w13 ⟨rfl, hb13⟩
  refine ⟨_, rfl, hb13, fun hx => ?_⟩
  go_simp
  refine hK _ _ _ ?_
  clear hK K
  try rw [show decide (e = e) = true by simp]
  iterate 1
    refine x_still rfl rfl rfl (fun K hK => ?_)
    apply Exists.intro
    refine ⟨fun w' hw' => ?_, ?_⟩
    · obtain ⟨hc', hf', _⟩ := bcell hw'.toBelow
      try simp only [World.size_drew] at hc' hf'
      go_simp
      rfl
    go_simp
    refine hK _ _ _ ?_
    clear hK K
  refine x_nil ?_
  have hu13 := up11 hx
  go_wp2
  go_ret
  exact ⟨rfl, hB11'.trans (hu13.mono (by omega))⟩
end Go.Proofs.YtldhpaflmnlcaaaGreatDoor
