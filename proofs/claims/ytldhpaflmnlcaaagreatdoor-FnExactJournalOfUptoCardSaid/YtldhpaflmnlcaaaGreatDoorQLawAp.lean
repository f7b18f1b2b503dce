/-
  The law of ApplyEntry, walked. Own work.
-/
import Derived.Test.YtldhpaflmnlcaaaGreatDoorQH
import Derived.Test.YtldhpaflmnlcaaaGreatDoorQL
import Derived.Test.YtldhpaflmnlcaaaGreatDoorQHeld
import Derived.Test.YtldhpaflmnlcaaaGreatDoorQC
set_option linter.all false
namespace Go.Proofs.YtldhpaflmnlcaaaGreatDoor
open Go.RowKit
set_option linter.unusedVariables false
set_option linter.unusedSimpArgs false

theorem box4 {w W : World} {a b c d : Value} {t : TypeId} (hB : Below (w.heap.size + 1) (w.alloc (.cells #[a, b, c, d] t)) W) :
    W.cell? ⟨w.heap.size, 0, none⟩ = some a ∧ W.cell? ⟨w.heap.size, 1, none⟩ = some b ∧ W.cell? ⟨w.heap.size, 2, none⟩ = some c ∧ W.cell? ⟨w.heap.size, 3, none⟩ = some d ∧ w.heap.size < W.heap.size ∧ Below w.heap.size w W := by
  refine ⟨?_, ?_, ?_, ?_, by have := hB.size; simp at this; omega, (alloc_below _ _).trans (hB.mono (by omega))⟩
  · rw [hB.cell (p := ⟨w.heap.size, 0, none⟩) (by simp)]; simp
  · rw [hB.cell (p := ⟨w.heap.size, 1, none⟩) (by simp)]; simp
  · rw [hB.cell (p := ⟨w.heap.size, 2, none⟩) (by simp)]; simp
  · rw [hB.cell (p := ⟨w.heap.size, 3, none⟩) (by simp)]; simp
def Sub (w w' : World) : Prop := ∀ b o x, w.cell? ⟨b, o, none⟩ = some x → w'.cell? ⟨b, o, none⟩ = some x
theorem NdsAt.sub {w w' : World} {v : Value} {ns : List Nd} (h : NdsAt w v ns) (hk : Sub w w') : NdsAt w' v ns :=
  SlAt.mono h fun _ _ _ ⟨hi, r⟩ => ⟨hi, hk _ _ _ r.1, hk _ _ _ r.2.1, hk _ _ _ r.2.2⟩
theorem DfsAt.sub {w w' : World} {v : Value} {L : List Df} (h : DfsAt w v L) (hk : Sub w w') : DfsAt w' v L :=
  SlAt.mono h fun _ _ _ ⟨hi, h1, h2, h3, v, h4, h5⟩ => ⟨hi, hk _ _ _ h1, hk _ _ _ h2, hk _ _ _ h3, v, hk _ _ _ h4, h5.sub hk⟩
theorem sub_below {w w' : World} (h : Below w.heap.size w w') : Sub w w' := fun _ _ _ hx => cell_keep h hx
theorem sub_exc {T : Nat → Prop} {w0 w w' : World} (h0 : Below w0.heap.size w0 w) (h : Exc T w w') (hT : ∀ k, T k → w0.heap.size ≤ k) : Sub w0 w' := by
  intro b o x hx
  have hb := cell_lt hx
  have h1 := h0.size
  rw [h.cell.1 b o (by omega) (fun ht => by have := hT b ht; omega)]
  exact cell_keep h0 hx
theorem DfsRow.exc {T : Nat → Prop} {w w' : World} {B : Nat} {v : Value} {xs : List (Df × Value)} (h : DfsRow w B v xs) (hE : Exc T w w') (hT : ∀ k, T k → k < B) : DfsRow w' B v xs :=
  ⟨owns_exc hE h.1 (fun k hk ht => by have := (World.ownsRow.lt h.1 k hk).1; have := hT k ht; omega),
   fun x hx => owns_exc hE (h.2.1 x hx) (fun k hk ht => by have := (World.ownsRow.lt (h.2.1 x hx) k hk).1; have := hT k ht; omega), h.2.2⟩
theorem NdsOwn.exc {T : Nat → Prop} {w w' : World} {B : Nat} {v : Value} {ns : List Nd} (h : NdsOwn w B v ns) (hE : Exc T w w') (hT : ∀ k, v.ownBlock = some k → ¬ T k) : NdsOwn w' B v ns := owns_exc hE h hT
theorem ownD_lt {w : World} {B : Nat} {v : Value} {xs : List (Df × Value)} (h : DfsRow w B v xs) : ∀ k, OwnD v xs k → B ≤ k ∧ k < w.heap.size := by
  rintro k (hk | ⟨x, hx, hk⟩)
  · exact World.ownsRow.lt h.1 k hk
  · exact World.ownsRow.lt (h.2.1 x hx) k hk
theorem good_mk {R : List Df} (hl : R.length ≤ 12) (hb : ∀ d ∈ R, d.body.length ≤ 400) : mkLen R ≤ 1203 * R.length := by
  induction R with
  | nil => simp [mkLen]
  | cons d r ih =>
    have h1 := hb d (List.mem_cons_self ..)
    have h2 := ih (by simp at hl; omega) (fun x hx => hb x (List.mem_cons_of_mem _ hx))
    simp only [mkLen, List.length_cons]
    omega
/-- the result of an entry, with its bounds -/
theorem res_ok {L : List Df} {e : En} : ((applyE L e).getD []).length ≤ 12 ∧ (∀ d ∈ (applyE L e).getD [], d.body.length ≤ 400) := by
  cases h : applyE L e with
  | none => simp
  | some R =>
    have hg := applyE_good h
    exact ⟨good_len hg, fun d hd => (good_bnd hg d hd).2.1⟩
theorem bne_self_false (b : Bool) : (b != b) = false := by cases b <;> rfl

set_option maxRecDepth 100000 in
set_option maxHeartbeats 8000000 in
theorem lawApply_any (v vb : Value) (L : List Df) (e : En) (w : World) (hv : DfsAt w v L) (hn : L.length ≤ 1048576) (hs : ∀ x ∈ L, DfOk x) (hvb : NdsAt w vb e.body) (he : EnOk e) (hm : 1 + mkLen L ≤ 8388608) :
    Calls Tryz.prog 7 #[v, .agg #[.int .i64 e.kind, .string e.name, .string e.to, vb]] w fun r w' => r = .returned (.bool true) ∧ Below w.heap.size w w' := by
  obtain ⟨a, cap, rfl⟩ : ∃ a cap, v = .slice a L.length cap := by obtain ⟨a, cap, rfl, _⟩ := hv; exact ⟨a, cap, rfl⟩
  obtain ⟨ab, cb, rfl⟩ := hvb.slice
  have hLb : ∀ d ∈ L, d.body.length ≤ 1048576 := fun d hd => (hs d hd).2.2
  have hEb : e.body.length ≤ 1048576 := he.2.2.2
  obtain ⟨hRl, hRb⟩ := res_ok (L := L) (e := e)
  have hRm := good_mk hRl hRb
  obtain ⟨R, hR⟩ : ∃ R, (applyE L e).getD [] = R := ⟨_, rfl⟩
  obtain ⟨ok, hok⟩ : ∃ ok, (applyE L e).isSome = ok := ⟨_, rfl⟩
  rw [hR] at hRl hRb hRm
  have hRl' : R.length ≤ 1048576 := by omega
  have hRb' : ∀ d ∈ R, d.body.length ≤ 1048576 := fun d hd => by have := hRb d hd; omega
  have HR := Lib.hid hR
  have HOK := Lib.hid hok
  clear hR hok
  go_enter Tryz.func7, Tryz.ntmps7
  go_wp2_with fail
  refine (szDefS_any _ L _ _ (hv.keep (alloc_below _ _)) hs hn (by omega) (by omega)).mono ?_
  rintro r w1 ⟨n1, rfl, hn1, hn1', hb1⟩
  have hB1 : Below (w.heap.size + 1) (w.alloc (.cells #[.int .i64 e.kind, .string e.name, .string e.to, .slice ab e.body.length cb] 49)) w1 := hb1.mono (by simp)
  obtain ⟨x0, x1, x2, x3, z1, hB1'⟩ := box4 hB1
  by_cases hneg : n1 < 0
  · go_wp2
    go_ret
    exact ⟨rfl, hB1'⟩
  have hnn : ¬ n1 < 0 := hneg
  go_wp2_with fail
  refine (szEntry_any _ e _ _ (hvb.keep hB1') he (by omega) hn1').mono ?_
  rintro r w2 ⟨n2, rfl, hn2, hn2', hb2⟩
  have hB2 := hB1.trans (hb2.mono (by omega))
  clear x0 x1 x2 x3
  obtain ⟨x0, x1, x2, x3, z2, hB2'⟩ := box4 hB2
  by_cases hneg2 : n2 < 0
  · go_wp2
    go_ret
    exact ⟨rfl, hB2'⟩
  have hnn2 : ¬ n2 < 0 := hneg2
  go_wp2_with fail
  have up2 : ∀ {w' : World}, Exc NoT w2.drew w' → Below w2.heap.size w2 w' := fun h => (Below.refl w2.heap.size w2).drew.trans (h.toBelow.mono (by simp))
  refine region_acts (C := Exc (NoT) _) 4 [0, 1, 2, 3, 4, 5, 6, 7, 8, 9] (by kernel_rfl) (by kernel_rfl) (Exc.grows _ _) (Exc.refl _ _) ?_
  iterate 1
    refine x_still rfl rfl rfl (fun K hK => ?_)
    apply Exists.intro
    refine ⟨fun w' hw' => ?_, ?_⟩
    · obtain ⟨hc', hf', _⟩ := bcell hw'.toBelow
      try simp only [World.size_drew] at hc' hf'
      go_simp
      rfl
    go_simp
    refine hK _ _ _ ?_
    clear hK K
  refine x_call rfl rfl rfl (Exc.grows _ _) (Exc.refl _ _) 18 (fun K hK => ?_)
  apply Exists.intro
  refine ⟨fun w' hw' => ?_, fun wa hwa hbwa => ?_⟩
  · go_simp
    rfl
  refine (toDefS_any _ L _ (hv.keep (hB2'.trans ((up2 hwa).mono (by omega)))) hn hLb).mono ?_
  rintro e w3 ⟨v3, rfl, ho3, hb3⟩
  refine ⟨_, rfl, hb3, fun hx => ?_⟩
  go_simp
  refine hK _ _ _ ?_
  clear hK K
  iterate 1
    refine x_still rfl rfl rfl (fun K hK => ?_)
    apply Exists.intro
    refine ⟨fun w' hw' => ?_, ?_⟩
    · obtain ⟨hc', hf', _⟩ := bcell hw'.toBelow
      try simp only [World.size_drew] at hc' hf'
      go_simp
      rfl
    go_simp
    refine hK _ _ _ ?_
    clear hK K
  refine x_call rfl rfl rfl (Exc.grows _ _) (hx) 35 (fun K hK => ?_)
  apply Exists.intro
  refine ⟨fun w' hw' => ?_, fun wb hwb hbwb => ?_⟩
  · go_simp
    rfl
  refine (toEntry_any _ e _ (hvb.keep (hB2'.trans ((up2 hwb).mono (by omega)))) hEb).mono ?_
  rintro e w4 ⟨v4, rfl, ho4, hb4⟩
  refine ⟨_, rfl, hb4, fun hx => ?_⟩
  go_simp
  refine hK _ _ _ ?_
  clear hK K
  refine x_call rfl rfl rfl (Exc.grows _ _) (hx) 38 (fun K hK => ?_)
  apply Exists.intro
  refine ⟨fun w' hw' => ?_, fun wc hwc hbwc => ?_⟩
  · go_simp
    rfl
  refine (specApply_any _ _ L e _ (ho3.at.keep (hbwb.trans ((hb4.trans (hbwc.mono hb4.size)).mono hbwb.size))) hn hs (ho4.at.keep hbwc) he).mono ?_
  rintro e w5 ⟨v5, rfl, ho5, hb5⟩
  refine ⟨_, rfl, hb5, fun hx => ?_⟩
  go_simp
  refine hK _ _ _ ?_
  clear hK K
  rw [HOK.out]
  iterate 5
    refine x_still rfl rfl rfl (fun K hK => ?_)
    apply Exists.intro
    refine ⟨fun w' hw' => ?_, ?_⟩
    · obtain ⟨hc', hf', _⟩ := bcell hw'.toBelow
      try simp only [World.size_drew] at hc' hf'
      go_simp
      rfl
    go_simp
    refine hK _ _ _ ?_
    clear hK K
  refine x_nil ?_
  rw [HR.out] at ho5
  have hu5 := up2 hx
  have hB5 := hB2.trans (hu5.mono (by omega))
  clear x0 x1 x2 x3
  obtain ⟨x0, x1, x2, x3, z5, hB5'⟩ := box4 hB5
  clear hx hwa hwb hwc hbwa hbwb hbwc up2 hu5 ho3 ho4 hb3 hb4 hb5 hb2 hb1
  have hbne := bne_self_false ok
  go_wp2_with fail
  refine (toDefS_any _ L _ (hv.keep hB5') hn hLb).mono ?_
  rintro r w6 ⟨v6, rfl, ⟨xs6, hxs6, hrow6⟩, hb6⟩
  have hB6 := hB5.trans (hb6.mono (by omega))
  clear x0 x1 x2 x3
  obtain ⟨x0, x1, x2, x3, z6, hB6'⟩ := box4 hB6
  go_wp2_with fail
  refine (toEntry_any _ e _ (hvb.keep hB6') hEb).mono ?_
  rintro r w7 ⟨v7, rfl, ho7, hb7⟩
  obtain ⟨a7, c7, rfl⟩ := ho7.slice
  have hB7 := hB6.trans (hb7.mono (by omega))
  clear x0 x1 x2 x3
  obtain ⟨x0, x1, x2, x3, z7, hB7'⟩ := box4 hB7
  have hrow6' : DfsRow w6 w5.heap.size v6 xs6 := hrow6
  have hat6 : DfsAt w6 v6 L := by have := DfsRow.at hrow6; rwa [hxs6] at this
  have hk67 : Below w6.heap.size w6 (w7.alloc (.cells #[.int .i64 e.kind, .string e.name, .string e.to, .slice a7 e.body.length c7] 54)) := hb7.alloc hb7.size _
  go_wp2_with fail
  refine (implApply_any _ _ L e _ (hat6.keep hk67) hn hs (ho7.at.keep (alloc_below _ _)) he).mono ?_
  rintro r w8 ⟨v8, rfl, ⟨xs8, hxs8, hrow8⟩, hb8⟩
  rw [HR.out] at hxs8
  rw [HOK.out]
  have hC8 : Below (w7.heap.size + 1) (w7.alloc (.cells #[.int .i64 e.kind, .string e.name, .string e.to, .slice a7 e.body.length c7] 54)) w8 := hb8.mono (by simp)
  obtain ⟨y0, y1, y2, y3, zy, hC8'⟩ := box4 hC8
  have hB8 := hB7.trans ((hC8'.mono (by omega)))
  clear x0 x1 x2 x3
  obtain ⟨x0, x1, x2, x3, z8, hB8'⟩ := box4 hB8
  have hsz56 := hb6.size
  have hsz67 := hb7.size
  have hsz78 := hC8'.size
  have hb58 : Below w5.heap.size w5 w8 := hb6.trans ((hb7.trans (hC8'.mono hsz67)).mono hsz56)
  have hrow8' : DfsRow w8 (w7.heap.size + 1) v8 xs8 := by have := hrow8; simpa [DfsRow, World.size_alloc] using this
  have hat8 : DfsAt w8 v8 R := by have := DfsRow.at hrow8'; rwa [hxs8] at this
  have hat5 := ho5.at
  go_wp2_with fail
  refine (eqDefS_any _ _ R R _ hat8 (hat5.keep hb58) hRl' hRl' hRb' hRb').mono ?_
  rintro r w9 ⟨rfl, hb9⟩
  rw [show decide (R = R) = true by simp]
  have hC9 := hC8.trans (hb9.mono (by omega))
  clear y0 y1 y2 y3
  obtain ⟨y0, y1, y2, y3, zy9, hC9'⟩ := box4 hC9
  have hB9 := hB8.trans (hb9.mono (by omega))
  clear x0 x1 x2 x3
  obtain ⟨x0, x1, x2, x3, z9, hB9'⟩ := box4 hB9
  go_wp2_with fail
  refine (toDefS_any _ L _ (hv.keep hB9') hn hLb).mono ?_
  rintro r w10 ⟨v10, rfl, ho10, hb10⟩
  have hb610 : Below w6.heap.size w6 w10 := hb7.trans ((hC9'.trans (hb10.mono hC9'.size)).mono hsz67)
  go_wp2_with fail
  refine (eqDefS_any _ _ L L _ (hat6.keep hb610) ho10.at hn hn hLb hLb).mono ?_
  rintro r w11 ⟨rfl, hb11⟩
  rw [show decide (L = L) = true by simp]
  have hb911 := hb10.trans (hb11.mono hb10.size)
  have hC11 := hC9.trans (hb911.mono (by omega))
  clear y0 y1 y2 y3
  obtain ⟨y0, y1, y2, y3, zy11, hC11'⟩ := box4 hC11
  have hB11 := hB9.trans (hb911.mono (by omega))
  clear x0 x1 x2 x3
  obtain ⟨x0, x1, x2, x3, z11, hB11'⟩ := box4 hB11
  go_wp2_with fail
  have up11 : ∀ {w' : World}, Exc NoT w11.drew w' → Below w11.heap.size w11 w' := fun h => (Below.refl w11.heap.size w11).drew.trans (h.toBelow.mono (by simp))
  have hsz711 := hC11'.size
  refine region_acts (C := Exc (NoT) _) 4 [0, 1, 2, 3, 4] (by kernel_rfl) (by kernel_rfl) (Exc.grows _ _) (Exc.refl _ _) ?_
  iterate 2
    refine x_still rfl rfl rfl (fun K hK => ?_)
    apply Exists.intro
    refine ⟨fun w' hw' => ?_, ?_⟩
    · obtain ⟨hc', hf', _⟩ := bcell hw'.toBelow
      try simp only [World.size_drew] at hc' hf'
      go_simp
      rfl
    go_simp
    refine hK _ _ _ ?_
    clear hK K
  refine x_call rfl rfl rfl (Exc.grows _ _) (Exc.refl _ _) 35 (fun K hK => ?_)
  apply Exists.intro
  refine ⟨fun w' hw' => ?_, fun wa hwa hbwa => ?_⟩
  · go_simp
    rfl
  refine (toEntry_any _ e _ (hvb.keep (hB11'.trans ((up11 hwa).mono (by omega)))) hEb).mono ?_
  rintro e w12 ⟨v12, rfl, ho12, hb12⟩
  refine ⟨_, rfl, hb12, fun hx => ?_⟩
  go_simp
  refine hK _ _ _ ?_
  clear hK K
  refine x_call rfl rfl rfl (Exc.grows _ _) (hx) 37 (fun K hK => ?_)
  apply Exists.intro
  refine ⟨fun w' hw' => ?_, fun wb hwb hbwb => ?_⟩
  · go_simp
    rfl
  refine (eqEntry_any _ _ e e _ ((ho7.at.keep hC11').keep (up11 hwb)) (ho12.at.keep hbwb) hEb hEb).mono ?_
  rintro e w13 ⟨rfl, hb13⟩
  refine ⟨_, rfl, hb13, fun hx => ?_⟩
  go_simp
  refine hK _ _ _ ?_
  clear hK K
  try rw [show decide (e = e) = true by simp]
  iterate 1
    refine x_still rfl rfl rfl (fun K hK => ?_)
    apply Exists.intro
    refine ⟨fun w' hw' => ?_, ?_⟩
    · obtain ⟨hc', hf', _⟩ := bcell hw'.toBelow
      try simp only [World.size_drew] at hc' hf'
      go_simp
      rfl
    go_simp
    refine hK _ _ _ ?_
    clear hK K
  refine x_nil ?_
  have hu13 := up11 hx
  have hC13 := hC11.trans (hu13.mono (by omega))
  clear y0 y1 y2 y3
  obtain ⟨y0, y1, y2, y3, zy13, hC13'⟩ := box4 hC13
  have hB13 := hB11.trans (hu13.mono (by omega))
  clear x0 x1 x2 x3
  obtain ⟨x0, x1, x2, x3, z13, hB13'⟩ := box4 hB13
  clear hx hwa hwb hbwa hbwb ho12 hb12 hb13 up11 ho10
  have hlen6 : lenD xs6 = mkLen L := by unfold lenD; rw [hxs6]
  have hlen8 : lenD xs8 = mkLen R := by unfold lenD; rw [hxs8]
  have hl6 : xs6.length = L.length := by have := congrArg List.length hxs6; simpa using this
  have hl8 : xs8.length = R.length := by have := congrArg List.length hxs8; simpa using this
  have hb6' : ∀ x ∈ xs6, x.1.body.length ≤ 1048576 := fun x hx => hLb _ (by rw [← hxs6]; exact List.mem_map_of_mem hx)
  have hb8' : ∀ x ∈ xs8, x.1.body.length ≤ 1048576 := fun x hx => hRb' _ (by rw [← hxs8]; exact List.mem_map_of_mem hx)
  have hmL : 0 ≤ mkLen L := mkLen_nonneg L
  have hmR : 0 ≤ mkLen R := mkLen_nonneg R
  have hmall := markedD_all xs8 1
  rw [hxs8, hl8] at hmall
  have HM := Lib.hid (And.intro hmall (And.intro hl6 hl8))
  have H6 := Lib.hid hlen6
  have H8 := Lib.hid hlen8
  have HX8 := Lib.hid hxs8
  have hn6 : xs6.length ≤ 1048576 := by omega
  have hn8 : xs8.length ≤ 1048576 := by omega
  have hm6 : 1 + lenD xs6 ≤ 8388608 := by rw [hlen6]; exact hm
  have hm8 : 1 + lenD xs8 ≤ 8388608 := by rw [hlen8]; omega
  have hk613 : Below w6.heap.size w6 w13 := hk67.trans (((hb8.trans ((hb9.trans ((hb911.trans (hu13.mono hb911.size)).mono hb9.size)).mono hb8.size)).mono (by simp; omega)))
  clear hmall hl6 hl8 hlen6 hlen8 hxs6 hxs8
  go_wp2_with fail
  refine (markDefS_any _ xs6 1 w5.heap.size _ (hrow6'.keep hk613) hn6 hb6' (by omega) hm6).mono ?_
  rintro r w14 ⟨rfl, hrow14, hex14⟩
  rw [H6.out]
  have hT6 := ownD_lt hrow6'
  have hex14c := hex14.cell.1
  have hB14 := hB13.trans (exc_below hex14 (by omega) (fun k hk => by have := (hT6 k hk).1; omega))
  clear x0 x1 x2 x3
  obtain ⟨x0, x1, x2, x3, z14, hB14'⟩ := box4 hB14
  have yy : ∀ j, w14.cell? ⟨w7.heap.size, j, none⟩ = w13.cell? ⟨w7.heap.size, j, none⟩ := fun j => hex14c _ _ (by omega) (fun hk => by have := (hT6 _ hk).2; omega)
  have y0' := (yy 0).trans y0
  have y1' := (yy 1).trans y1
  have y2' := (yy 2).trans y2
  have y3' := (yy 3).trans y3
  have hz14 := hex14.size
  clear hex14c yy
  have ho14 : NdsOwn w14 w6.heap.size (.slice a7 e.body.length c7) e.body := ((ho7.keep hC13').exc hex14 (fun k hk ht => by have := (World.ownsRow.lt ho7 k hk).1; have := (hT6 k ht).2; omega))
  go_wp2_with fail
  refine (markEntry_any _ e _ w6.heap.size _ ho14 hEb (by omega) hm).mono ?_
  rintro r w15 ⟨rfl, ho15, hex15⟩
  have hT7 : ∀ k, Own1 (.slice a7 e.body.length c7) k → w6.heap.size ≤ k ∧ k < w7.heap.size := fun k hk => World.ownsRow.lt ho7 k hk
  have hB15 := hB14.trans (exc_below hex15 (by omega) (fun k hk => by have := (hT7 k hk).1; omega))
  clear x0 x1 x2 x3
  obtain ⟨x0, x1, x2, x3, z15, hB15'⟩ := box4 hB15
  have hz15 := hex15.size
  have hb513 : Below w5.heap.size w5 w13 := hb6.trans (hk613.mono hsz56)
  have hT : Exc (fun k => w5.heap.size ≤ k ∧ k < w7.heap.size) w13 w15 := (hex14.mono (fun k hk => by have := hT6 k hk; omega)).trans (hex15.mono (fun k hk => by have := hT7 k hk; omega))
  have hat15 : DfsAt w15 v5 R := hat5.sub (sub_exc hb513 hT (fun k hk => hk.1))
  have hrow13 : DfsRow w13 (w7.heap.size + 1) v8 xs8 := hrow8'.keep (hb9.trans ((hb911.trans (hu13.mono hb911.size)).mono hb9.size))
  have hrow15 : DfsRow w15 (w7.heap.size + 1) v8 xs8 := hrow13.exc hT (fun k hk => by omega)
  have hat815 : DfsAt w15 v8 R := by have := DfsRow.at hrow15; rwa [HX8.out] at this
  have hnk : ¬ (1 + mkLen L + 3 * (e.body.length : Int) < 0) := by omega
  go_wp2_with fail
  refine (eqDefS_any _ _ R R _ hat815 hat15 hRl' hRl' hRb' hRb').mono ?_
  rintro r w16 ⟨rfl, hb16⟩
  rw [show decide (R = R) = true by simp]
  have hB16 := hB15.trans (hb16.mono (by omega))
  clear x0 x1 x2 x3
  obtain ⟨x0, x1, x2, x3, z16, hB16'⟩ := box4 hB16
  have hrow16 := hrow15.keep hb16
  have hT8 := ownD_lt hrow16
  go_wp2_with fail
  refine (markDefS_any _ xs8 1 (w7.heap.size + 1) _ hrow16 hn8 hb8' (by omega) hm8).mono ?_
  rintro r w17 ⟨rfl, hrow17, hex17⟩
  rw [H8.out]
  have hB17 := hB16.trans (exc_below hex17 (by omega) (fun k hk => by have := (hT8 k hk).1; omega))
  clear x0 x1 x2 x3
  obtain ⟨x0, x1, x2, x3, z17, hB17'⟩ := box4 hB17
  have hat17 : DfsAt w17 v8 (mkDs R 1) := by have := DfsRow.at hrow17; rw [HM.out.2.2] at this; rwa [HM.out.1] at this
  have hz17 := hex17.size
  have hnr : ¬ (1 + mkLen R < 0) := by omega
  have hne : ((1 + mkLen R : Int) != 1 + mkLen R) = false := by simp
  go_wp2_with fail
  refine (heldDefS_any _ R 1 _ hat17 hRl' hRb' (by omega) (by omega)).mono ?_
  rintro r w18 ⟨rfl, hb18⟩
  have hB18 := hB17.trans (hb18.mono (by omega))
  clear x0 x1 x2 x3
  obtain ⟨x0, x1, x2, x3, z18, hB18'⟩ := box4 hB18
  go_wp2_with fail
  have up18 : ∀ {w' : World}, Exc NoT w18.drew w' → Below w18.heap.size w18 w' := fun h => (Below.refl w18.heap.size w18).drew.trans (h.toBelow.mono (by simp))
  refine region_acts (C := Exc (NoT) _) 4 [0, 1, 2, 3, 4, 5, 6, 7, 8, 9] (by kernel_rfl) (by kernel_rfl) (Exc.grows _ _) (Exc.refl _ _) ?_
  iterate 1
    refine x_still rfl rfl rfl (fun K hK => ?_)
    apply Exists.intro
    refine ⟨fun w' hw' => ?_, ?_⟩
    · obtain ⟨hc', hf', _⟩ := bcell hw'.toBelow
      try simp only [World.size_drew] at hc' hf'
      go_simp
      rfl
    go_simp
    refine hK _ _ _ ?_
    clear hK K
  refine x_call rfl rfl rfl (Exc.grows _ _) (Exc.refl _ _) 18 (fun K hK => ?_)
  apply Exists.intro
  refine ⟨fun w' hw' => ?_, fun wa hwa hbwa => ?_⟩
  · go_simp
    rfl
  refine (toDefS_any _ L _ (hv.keep (hB18'.trans ((up18 hwa).mono (by omega)))) hn hLb).mono ?_
  rintro e w19 ⟨v19, rfl, ho19, hb19⟩
  refine ⟨_, rfl, hb19, fun hx => ?_⟩
  go_simp
  refine hK _ _ _ ?_
  clear hK K
  iterate 1
    refine x_still rfl rfl rfl (fun K hK => ?_)
    apply Exists.intro
    refine ⟨fun w' hw' => ?_, ?_⟩
    · obtain ⟨hc', hf', _⟩ := bcell hw'.toBelow
      try simp only [World.size_drew] at hc' hf'
      go_simp
      rfl
    go_simp
    refine hK _ _ _ ?_
    clear hK K
  refine x_call rfl rfl rfl (Exc.grows _ _) (hx) 35 (fun K hK => ?_)
  apply Exists.intro
  refine ⟨fun w' hw' => ?_, fun wb hwb hbwb => ?_⟩
  · go_simp
    rfl
  refine (toEntry_any _ e _ (hvb.keep (hB18'.trans ((up18 hwb).mono (by omega)))) hEb).mono ?_
  rintro e w20 ⟨v20, rfl, ho20, hb20⟩
  refine ⟨_, rfl, hb20, fun hx => ?_⟩
  go_simp
  refine hK _ _ _ ?_
  clear hK K
  refine x_call rfl rfl rfl (Exc.grows _ _) (hx) 39 (fun K hK => ?_)
  apply Exists.intro
  refine ⟨fun w' hw' => ?_, fun wc hwc hbwc => ?_⟩
  · go_simp
    rfl
  refine (implApply_any _ _ L e _ (ho19.at.keep (hbwb.trans ((hb20.trans (hbwc.mono hb20.size)).mono hbwb.size))) hn hs (ho20.at.keep hbwc) he).mono ?_
  rintro e w21 ⟨v21, rfl, ho21, hb21⟩
  refine ⟨_, rfl, hb21, fun hx => ?_⟩
  go_simp
  refine hK _ _ _ ?_
  clear hK K
  rw [HOK.out]
  iterate 5
    refine x_still rfl rfl rfl (fun K hK => ?_)
    apply Exists.intro
    refine ⟨fun w' hw' => ?_, ?_⟩
    · obtain ⟨hc', hf', _⟩ := bcell hw'.toBelow
      try simp only [World.size_drew] at hc' hf'
      go_simp
      rfl
    go_simp
    refine hK _ _ _ ?_
    clear hK K
  refine x_nil ?_
  rw [HR.out] at ho21
  have hu21 := up18 hx
  have hB21 := hB18.trans (hu21.mono (by omega))
  clear x0 x1 x2 x3
  obtain ⟨x0, x1, x2, x3, z21, hB21'⟩ := box4 hB21
  clear hx hwa hwb hwc hbwa hbwb hbwc up18 ho19 ho20 hb19 hb20 hb21
  have hz16 := hb16.size
  have hz18 := hb18.size
  have hTall : Exc (fun k => w5.heap.size ≤ k) w13 w17 := (hT.mono (fun k hk => hk.1)).trans ((Below.exc hb16).trans (hex17.mono (fun k hk => by have := (hT8 k hk).1; omega)))
  have hat17' : DfsAt w17 v5 R := hat5.sub (sub_exc hb513 hTall (fun k hk => hk))
  have hb1721 : Below w17.heap.size w17 w21 := hb18.trans (hu21.mono hz18)
  go_wp2_with fail
  refine (eqDefS_any _ _ R R _ ho21.at (hat17'.keep hb1721) hRl' hRl' hRb' hRb').mono ?_
  rintro r w22 ⟨rfl, hb22⟩
  rw [show decide (R = R) = true by simp]
  have hb1722 := hb1721.trans (hb22.mono hb1721.size)
  go_wp2_with fail
  refine (heldDefS_any _ R 1 _ (hat17.keep hb1722) hRl' hRb' (by omega) (by omega)).mono ?_
  rintro r w23 ⟨rfl, hb23⟩
  go_wp2
  go_ret
  exact ⟨rfl, hB21'.trans ((hb22.trans (hb23.mono hb22.size)).mono (by omega))⟩
end Go.Proofs.YtldhpaflmnlcaaaGreatDoor
