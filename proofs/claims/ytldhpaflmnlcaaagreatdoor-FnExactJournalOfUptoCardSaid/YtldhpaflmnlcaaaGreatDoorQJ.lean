/-
  The law's copy of a list of entries. (Printed from the text on definitions by a small program.) Own work.
-/
import Derived.Test.YtldhpaflmnlcaaaGreatDoorQC
import Derived.Test.YtldhpaflmnlcaaaGreatDoorQY
set_option linter.all false
namespace Go.Proofs.YtldhpaflmnlcaaaGreatDoor
open Go.RowKit
/-- the state of toEntryS after k rounds: the first k elements lie there, with bodies of their own -/
def ToEntryS (w wr : World) (B g : Nat) (L : List En) (k : Nat) : Prop :=
  ∃ ys : List (En × Value), ys.map Prod.fst = L.take k ∧ wr.ownsRow B 54 4 (.slice (some ⟨g, 0, none⟩) L.length L.length) L.length ((ys ++ List.replicate (L.length - k) enz).flatMap enCells) ∧
    (∀ x ∈ ys, NdsOwn wr B x.2 x.1.body) ∧ (ys.Pairwise fun x y => Apart x.2 y.2) ∧ g < wr.heap.size ∧ B ≤ g ∧ Below B w wr

theorem toEntryS_step {w wr w2 : World} {B g : Nat} {L : List En} {k : Nat} (h : ToEntryS w wr B g L k) (hk : k < L.length) (hb2 : Below wr.heap.size wr w2) {v : Value} (hv : NdsOwn w2 wr.heap.size v L[k].body) :
    ToEntryS w ((((w2.setCell ⟨g, k * 4, none⟩ (.int .i64 L[k].kind)).setCell ⟨g, k * 4 + 1, none⟩ (.string L[k].name)).setCell ⟨g, k * 4 + 2, none⟩ (.string L[k].to)).setCell ⟨g, k * 4 + 3, none⟩ v) B g L (k + 1) := by
  obtain ⟨ys, h1, h2, h3, h4, h5, h6, h7⟩ := h
  have hlen : ys.length = k := by have := congrArg List.length h1; simpa [Nat.min_eq_left (Nat.le_of_lt hk)] using this
  have h2' := owns_keep hb2 h2
  have hsz := hb2.size
  have hB : B ≤ wr.heap.size := by omega
  refine ⟨ys ++ [(L[k], v)], ?_, ?_, ?_, ?_, ?_, h6, ?_⟩
  · rw [List.map_append, h1, List.take_succ_eq_append_getElem hk]; rfl
  · have := set4 enCells_len h2' k (by simp; omega) (.int .i64 L[k].kind) (.string L[k].name) (.string L[k].to) v (L[k], v) rfl
    have e : (ys ++ List.replicate (L.length - k) enz).set k (L[k], v) = ys ++ [(L[k], v)] ++ List.replicate (L.length - (k + 1)) enz := by
      rw [List.set_append_right _ _ (by omega), hlen, Nat.sub_self]
      obtain ⟨m, hm⟩ : ∃ m, L.length - k = m + 1 := ⟨L.length - k - 1, by omega⟩
      rw [hm, show L.length - (k + 1) = m from by omega, List.replicate_succ, List.set_cons_zero, List.append_assoc]
      rfl
    rw [e] at this
    exact this
  · have key : ∀ (x : Value) (ns : List Nd), NdsOwn w2 B x ns → NdsOwn ((((w2.setCell ⟨g, k * 4, none⟩ (.int .i64 L[k].kind)).setCell ⟨g, k * 4 + 1, none⟩ (.string L[k].name)).setCell ⟨g, k * 4 + 2, none⟩ (.string L[k].to)).setCell ⟨g, k * 4 + 3, none⟩ v) B x ns := by
      intro x ns hx
      have hne : x.ownBlock ≠ some g := owns_block_ne hx h2' (by decide)
      exact owns_other (owns_other (owns_other (owns_other hx _ _ hne) _ _ hne) _ _ hne) _ _ hne
    intro x hx
    rcases List.mem_append.1 hx with hx | hx
    · exact key _ _ ((h3 x hx).keep hb2)
    · simp at hx; subst hx; exact key _ _ (hv.mono hB)
  · exact pairwise_snoc h4 fun y hy => apart_later (h3 y hy) hv (Nat.le_refl _)
  · simp; omega
  · exact ((((h7.trans (hb2.mono hB)).setCell h6 _).setCell h6 _).setCell h6 _).setCell h6 _

theorem toEntryS_old {w wr w2 : World} {B g : Nat} {L : List En} {k : Nat} (h : ToEntryS w wr B g L k) (hk : k < L.length) (hb2 : Below wr.heap.size wr w2) :
    ∃ (x : Int) (y z : ByteArray) (u : Option Addr), w2.cell? ⟨g, k * 4, none⟩ = some (.int .i64 x) ∧ w2.cell? ⟨g, k * 4 + 1, none⟩ = some (.string y) ∧ w2.cell? ⟨g, k * 4 + 2, none⟩ = some (.string z) ∧ w2.cell? ⟨g, k * 4 + 3, none⟩ = some (.slice u 0 0) ∧
      w2.frozen? ⟨g, k * 4, none⟩ = false ∧ w2.frozen? ⟨g, k * 4 + 1, none⟩ = false ∧ w2.frozen? ⟨g, k * 4 + 2, none⟩ = false ∧ w2.frozen? ⟨g, k * 4 + 3, none⟩ = false := by
  obtain ⟨ys, h1, h2, _⟩ := h
  have hlen : ys.length = k := by have := congrArg List.length h1; simpa [Nat.min_eq_left (Nat.le_of_lt hk)] using this
  have hll : k < (ys ++ List.replicate (L.length - k) enz).length := by simp; omega
  have hx : (ys ++ List.replicate (L.length - k) enz)[k] = enz := by rw [List.getElem_append_right (by omega)]; simp
  have := en_old (owns_keep hb2 h2) k hll
  rw [hx] at this
  exact ⟨_, _, _, _, this⟩
theorem toEntryS_end {w wr : World} {B g : Nat} {L : List En} (h : ToEntryS w wr B g L L.length) : EnsOwn wr B (.slice (some ⟨g, 0, none⟩) L.length L.length) L ∧ Below B w wr := by
  obtain ⟨ys, h1, h2, h3, h4, h5, h6, h7⟩ := h
  rw [List.take_length] at h1
  refine ⟨⟨ys, h1, ?_, h3, h4⟩, h7⟩
  have hl : ys.length = L.length := by rw [← h1, List.length_map]
  rw [hl]
  simpa using h2

theorem toEntryS_start {w w1 : World} {L : List En} (hown : w1.ownsRow w.heap.size 54 4 (Value.slice (some { block := w.heap.size, off := 0 }) L.length L.length) L.length (madeCells (Value.agg #[.int .i64 0, .string ⟨#[]⟩, .string ⟨#[]⟩, .slice none 0 0]).cells (L.length * 4)).toList) (hgr : w.grownBy w1 none) : ToEntryS w w1 w.heap.size w.heap.size L 0 := by
  have hz := made_flat (f := enCells) enz L.length (sz := 4) (by omega) rfl
  refine ⟨[], by simp, ?_, by simp, List.Pairwise.nil, (hown.lt w.heap.size rfl).2, Nat.le_refl _, (Below.refl _ _).grown hgr (Nat.le_refl _) (by simp)⟩
  simp only [List.nil_append, Nat.sub_zero]; rw [← hz]; exact hown

theorem toEntryS_any (v : Value) (L : List En) (w : World) (hv : EnsAt w v L) (hn : L.length ≤ 1048576) (hb : ∀ d ∈ L, d.body.length ≤ 1048576) :
    Calls Tryz.prog 43 #[v] w fun e w' => ∃ v', e = .returned v' ∧ EnsOwn w' w.heap.size v' L ∧ Below w.heap.size w w' := by
  obtain ⟨a, cap, rfl, hc, hat⟩ := hv
  obtain ⟨i0, hi, hz0, hz1, hz2⟩ := info_parts info54
  go_enter Tryz.func43, Tryz.ntmps43
  go_wp2_with (at_make; refine wpList_make_full _ rfl _ _ _ rfl w.heap.size 54 i0 _ 4 Tryz.underlying63 hi hz0 hz1 _ _ _ _ L.length rfl rfl rfl rfl (by rw [hz2]; omega) (by unfold maxLen; omega) (Nat.le_refl _) ?_; intro w1 hown hgr)
  have hst := toEntryS_start hown hgr
  clear hown hgr hi hz0 hz1 hz2
  go_loopw [4] (fun i wr => ∃ k : Nat, k ≤ L.length ∧ i = .int .i64 k ∧ ToEntryS w wr w.heap.size w.heap.size L k) (fun i _ => L.length - (intOf i).toNat)
  case atStart => exact ⟨0, Nat.zero_le _, rfl, hst⟩
  case round =>
    obtain ⟨k, hk, rfl, hst⟩ := hrel
    by_cases hlt : k < L.length
    · obtain ⟨b, o, rfl, _, hnd⟩ := hat k hlt
      obtain ⟨c0, c1, c2, v, c3, hv⟩ := hnd.keep hst.choose_spec.2.2.2.2.2.2
      obtain ⟨va, vc, rfl⟩ := hv.slice
      have hbk := hb L[k] (List.getElem_mem _)
      clear hat hnd hb
      go_wp2_with (go_at_call 35; refine (toEntry_any _ L[k] _ hv hbk).mono ?_; rintro e w2 ⟨v', rfl, hown', hb2⟩; obtain ⟨va', vc', rfl⟩ := hown'.slice; obtain ⟨x, y, z, u, d0, d1, d2, d3, f0, f1, f2, f3⟩ := toEntryS_old hst hlt hb2)
      have hst3 := toEntryS_step hst hlt hb2 hown'
      go_roundw
      case rel => exact ⟨k + 1, by omega, by go_num, hst3⟩
      case measure => simp [intOf]; omega
    · go_wp2
      go_ret
      have hkk : k = L.length := by omega
      subst hkk
      exact ⟨_, rfl, toEntryS_end hst⟩
end Go.Proofs.YtldhpaflmnlcaaaGreatDoor
/-
  JournalOf, the program's and the reference's. Own work.
-/
namespace Go.Proofs.YtldhpaflmnlcaaaGreatDoor
open Go.RowKit
set_option linter.unusedVariables false
set_option linter.unusedSimpArgs false

theorem goodLib_ok {L : List Df} (h : good L = true) : (∀ x ∈ L, DfOk x) ∧ L.length ≤ 1048576 := by
  have h1 := good_bnd h
  have h2 := good_len h
  refine ⟨fun x hx => ?_, by omega⟩
  obtain ⟨q1, q2, q3⟩ := h1 x hx
  exact ⟨by omega, fun n hn => by have := q3 n hn; omega, by omega⟩
theorem good_nil : good [] = true := by decide
theorem journ_no {L : List Df} {out : ByteArray} {e : En} {r : List En} (h : applyE L e = none) : journ L out (e :: r) = none := by
  unfold journ; rw [h]
theorem journ_yes {L R : List Df} {out : ByteArray} {e : En} {r : List En} (h : applyE L e = some R) : journ L out (e :: r) = journ R (out ++ recT (txtE e)) r := by
  conv => lhs; unfold journ
  rw [h]
theorem recT_size (s : ByteArray) : (recT s).size ≤ s.size + 16 := by
  obtain ⟨h0, h1⟩ := chkT_bd s
  have hz : (numT (chkT s)).size ≤ 8 := by
    have := dec_len (chkT s).toNat (by omega)
    simpa [numT, ByteArray.size] using this
  unfold recT
  simp only [bsize, show bHash.size = 2 from rfl, show bNl.size = 1 from rfl]
  omega
theorem isJournal_any (s : ByteArray) (w : World) (hs : s.size ≤ 9223372036854775807) :
    Calls Tryz.prog 90 #[.string s] w fun e w' => e = .returned (.bool (decide (s.size ≤ 60000))) ∧ w = w' := by
  by_cases h : s.size ≤ 60000
  · have HH := Lib.hid h
    have h2 : (s.size : Int) ≤ 60000 := by omega
    clear h
    go_enter Tryz.func90, Tryz.ntmps90
    go_wp2
    go_ret
    exact ⟨yes_bool HH.out, rfl⟩
  · have HH := Lib.hid h
    have h2 : ¬ (s.size : Int) ≤ 60000 := by omega
    clear h
    go_enter Tryz.func90, Tryz.ntmps90
    go_wp2
    go_ret
    exact ⟨no_bool HH.out, rfl⟩
/-- the state of JournalOf after k entries -/
structure JoSt (es : List En) (w wr : World) (v : Value) (s : ByteArray) (k : Nat) (L : List Df) : Prop where
  lib : DfsAt wr v L
  gd : good L = true
  go : Hid (journ [] ⟨#[]⟩ es = journ L s (es.drop k))
  bel : Below w.heap.size w wr
  sz : s.size ≤ k * 4194400
theorem DfsAt.shape {w : World} {v : Value} {L : List Df} (h : DfsAt w v L) : ∃ a c, v = .slice a L.length c := by
  obtain ⟨a, cap, rfl, _⟩ := h; exact ⟨a, cap, rfl⟩
theorem dfsAt_nil (w : World) (a : Option Addr) (c : Nat) : DfsAt w (.slice a 0 c) [] := ⟨a, c, rfl, Nat.zero_le _, fun i hi => absurd hi (Nat.not_lt_zero _)⟩
set_option maxRecDepth 100000 in
set_option maxHeartbeats 2000000 in
theorem implJournal_any (v : Value) (es : List En) (w : World) (ht : PowTab w) (hv : EnsAt w v es) (hn : es.length ≤ 1048576) (hs : ∀ e ∈ es, EnOk e) :
    Calls Tryz.prog 44 #[v] w (TxtPost (journal es) w) := by
  obtain ⟨a, cap, rfl, hc, hat⟩ := hv
  by_cases h60 : es.length ≤ 60
  · have g1 : ¬ (60 : Int) < es.length := by omega
    go_enter Tryz.func44, Tryz.ntmps44
    go_wp2
    go_loopw [4, 5, 16] (fun v4 v5 i wr => ∃ (k : Nat) (L : List Df) (s : ByteArray), k ≤ es.length ∧ i = .int .i64 k ∧ v5 = .string s ∧ JoSt es w wr v4 s k L) (fun _ _ i _ => es.length - (intOf i).toNat)
    case atStart => exact ⟨0, [], ⟨#[]⟩, Nat.zero_le _, rfl, rfl, dfsAt_nil _ _ _, good_nil, (rfl : Hid (journ [] ⟨#[]⟩ es = journ [] ⟨#[]⟩ (es.drop 0))), alloc_below _ _, Nat.zero_le _⟩
    case round =>
      obtain ⟨k, L, s, hk, rfl, rfl, hst⟩ := hrel
      obtain ⟨hlib, hgd, hgo, hbel, hsz⟩ := hst
      obtain ⟨a4, c4, rfl⟩ := hlib.shape
      by_cases hlt : k < es.length
      · obtain ⟨b, o, rfl, _, hnd⟩ := hat k hlt
        obtain ⟨c0, c1, c2, vb, c3, hvb⟩ := hnd.keep hbel
        obtain ⟨ab, cb, rfl⟩ := hvb.slice
        have hek := hs es[k] (List.getElem_mem _)
        obtain ⟨hLo, hLn⟩ := goodLib_ok hgd
        have hdrop := List.drop_eq_getElem_cons hlt
        clear hat hnd
        cases hap : applyE L es[k] with
        | none =>
          have HA := Lib.hid (show recO L es[k] = none by simp [recO, textO_none hap])
          have HJ : Hid (journal es = none) := (show _ = _ by unfold journal; rw [if_pos h60, hgo.out, hdrop, journ_no hap])
          clear hap hdrop hgo hgd
          go_wp2_with (go_at_call 47; refine (implRec_any _ _ L es[k] _ (ht.keep (hbel.alloc hbel.size _)) ((hlib.keep (alloc_below _ _))) hLn hLo (hvb.keep (alloc_below _ _)) hek).mono ?_; rintro r w1 ⟨rfl, hb1⟩; rw [HA.out]; simp only [Option.isSome_none, Option.getD_none])
          go_ret2
          exact ⟨by rw [HJ.out]; rfl, (hbel.alloc hbel.size _).trans (hb1.mono (by simp; have := hbel.size; omega))⟩
        | some R =>
          have HA := Lib.hid (show recO L es[k] = some (recT (txtE es[k])) by simp [recO, textO_some hap])
          have HP := Lib.hid hap
          have hgR := applyE_good hap
          have htz := txt_size hek hap
          have hrz := recT_size (txtE es[k])
          have hgo2 : Hid (journ [] ⟨#[]⟩ es = journ R (s ++ recT (txtE es[k])) (es.drop (k + 1))) := (show _ = _ by rw [hgo.out, hdrop, journ_yes hap])
          have hsz2 : (s ++ recT (txtE es[k])).size ≤ (k + 1) * 4194400 := by rw [bsize]; omega
          clear hap hdrop hgo hgd
          have hs60 : s.size ≤ 251664000 := by have : k * 4194400 ≤ 60 * 4194400 := Nat.mul_le_mul_right _ (by omega); omega
          go_wp2_with fail
          refine (implRec_any _ _ L es[k] _ (ht.keep (hbel.alloc hbel.size _)) ((hlib.keep (alloc_below _ _))) hLn hLo (hvb.keep (alloc_below _ _)) hek).mono ?_
          rintro r w1 ⟨rfl, hb1⟩
          rw [HA.out]
          simp only [Option.isSome_some, Option.getD_some]
          have hB1 : Below (wr.heap.size + 1) (wr.alloc (.cells #[.int .i64 es[k].kind, .string es[k].name, .string es[k].to, .slice ab es[k].body.length cb] 54)) w1 := hb1.mono (by simp)
          obtain ⟨x0, x1, x2, x3, z1, hB1'⟩ := box4 hB1
          clear hb1
          go_wp2_with fail
          refine (implApply_any _ _ L es[k] _ (hlib.keep hB1') hLn hLo (hvb.keep hB1') hek).mono ?_
          rintro r w2 ⟨v2, rfl, ho2, hb2⟩
          rw [HP.out] at ho2 ⊢
          simp only [Option.isSome_some, Option.getD_some] at ho2 ⊢
          have hbel2 : Below w.heap.size w w2 := hbel.trans ((hB1'.trans (hb2.mono hB1'.size)).mono hbel.size)
          have hst2 : JoSt es w w2 v2 (s ++ recT (txtE es[k])) (k + 1) R := ⟨ho2.at, hgR, hgo2, hbel2, hsz2⟩
          obtain ⟨a5, c5, rfl⟩ := ho2.at.shape
          clear hgo2 ho2 hbel2 hB1 hB1' hb2 hlib hgR
          go_wp2
          go_roundw
          case rel => exact ⟨k + 1, R, _, by omega, by go_num, rfl, hst2⟩
          case measure => simp [intOf]; omega
      · obtain rfl : k = es.length := by omega
        have h0 := hgo.out
        rw [List.drop_length, journ] at h0
        have hs60 : s.size ≤ 251664000 := by have : es.length * 4194400 ≤ 60 * 4194400 := Nat.mul_le_mul_right _ (by omega); omega
        by_cases hz : s.size ≤ 60000
        · have HJ : Hid (journal es = some s) := (show _ = _ by unfold journal; rw [if_pos h60, h0]; simp [hz])
          have HD := Lib.hid (show decide (s.size ≤ 60000) = true by simpa using hz)
          clear h0 hz hgo hat
          go_wp2_with (go_at_call 90; refine (isJournal_any s _ (by omega)).mono ?_; rintro r w1 ⟨rfl, rfl⟩; rw [HD.out])
          go_ret2
          exact ⟨by rw [HJ.out]; rfl, hbel⟩
        · have HJ : Hid (journal es = none) := (show _ = _ by unfold journal; rw [if_pos h60, h0]; simp [hz])
          have HD := Lib.hid (show decide (s.size ≤ 60000) = false by simpa using hz)
          clear h0 hz hgo hat
          go_wp2_with (go_at_call 90; refine (isJournal_any s _ (by omega)).mono ?_; rintro r w1 ⟨rfl, rfl⟩; rw [HD.out])
          go_ret2
          exact ⟨by rw [HJ.out]; rfl, hbel⟩
  · have g1 : (60 : Int) < es.length := by omega
    have HJ : Hid (journal es = none) := (show _ = _ by unfold journal; rw [if_neg h60])
    clear hat
    go_enter Tryz.func44, Tryz.ntmps44
    go_wp2
    go_ret2
    exact ⟨by rw [HJ.out]; rfl, Below.refl _ _⟩
end Go.Proofs.YtldhpaflmnlcaaaGreatDoor
/-
  The reference's JournalOf, and the law of JournalOf. Own work.
-/
namespace Go.Proofs.YtldhpaflmnlcaaaGreatDoor
open Go.RowKit
set_option linter.unusedVariables false
set_option linter.unusedSimpArgs false

set_option maxRecDepth 100000 in
set_option maxHeartbeats 2000000 in
theorem specJournal_any (v : Value) (es : List En) (w : World) (hv : EnsAt w v es) (hn : es.length ≤ 1048576) (hs : ∀ e ∈ es, EnOk e) :
    Calls Tryz.prog 42 #[v] w (TxtPost (journal es) w) := by
  obtain ⟨a, cap, rfl, hc, hat⟩ := hv
  by_cases h60 : es.length ≤ 60
  · have g1 : ¬ (60 : Int) < es.length := by omega
    go_enter Tryz.func42, Tryz.ntmps42
    go_wp2
    go_loopw [5, 4, 15] (fun v4 v5 i wr => ∃ (k : Nat) (L : List Df) (s : ByteArray), k ≤ es.length ∧ i = .int .i64 k ∧ v5 = .string s ∧ JoSt es w wr v4 s k L) (fun _ _ i _ => es.length - (intOf i).toNat)
    case atStart => exact ⟨0, [], ⟨#[]⟩, Nat.zero_le _, rfl, rfl, dfsAt_nil _ _ _, good_nil, (rfl : Hid (journ [] ⟨#[]⟩ es = journ [] ⟨#[]⟩ (es.drop 0))), Below.refl _ _, Nat.zero_le _⟩
    case round =>
      obtain ⟨k, L, s, hk, rfl, rfl, hst⟩ := hrel
      obtain ⟨hlib, hgd, hgo, hbel, hsz⟩ := hst
      obtain ⟨a4, c4, rfl⟩ := hlib.shape
      by_cases hlt : k < es.length
      · obtain ⟨b, o, rfl, _, hnd⟩ := hat k hlt
        obtain ⟨c0, c1, c2, vb, c3, hvb⟩ := hnd.keep hbel
        obtain ⟨ab, cb, rfl⟩ := hvb.slice
        have hek := hs es[k] (List.getElem_mem _)
        obtain ⟨hLo, hLn⟩ := goodLib_ok hgd
        have hdrop := List.drop_eq_getElem_cons hlt
        clear hat hnd
        cases hap : applyE L es[k] with
        | none =>
          have HA := Lib.hid (show (applyE L es[k]).isSome = false by rw [hap]; rfl)
          have HJ : Hid (journal es = none) := (show _ = _ by unfold journal; rw [if_pos h60, hgo.out, hdrop, journ_no hap])
          clear hap hdrop hgo hgd
          go_wp2_with (go_at_call 38; refine (specApply_any _ _ L es[k] _ ((hlib.keep (alloc_below _ _))) hLn hLo (hvb.keep (alloc_below _ _)) hek).mono ?_; rintro r w1 ⟨v1, rfl, ho1, hb1⟩; rw [HA.out]; obtain ⟨a5, c5, rfl⟩ := ho1.at.shape)
          go_ret2
          exact ⟨by rw [HJ.out]; rfl, (hbel.alloc hbel.size _).trans (hb1.mono (by simp; have := hbel.size; omega))⟩
        | some R =>
          have HP := Lib.hid hap
          have hgR := applyE_good hap
          have htz := txt_size hek hap
          have hrz := recT_size (txtE es[k])
          have hgo2 : Hid (journ [] ⟨#[]⟩ es = journ R (s ++ recT (txtE es[k])) (es.drop (k + 1))) := (show _ = _ by rw [hgo.out, hdrop, journ_yes hap])
          have hsz2 : (s ++ recT (txtE es[k])).size ≤ (k + 1) * 4194400 := by rw [bsize]; omega
          clear hap hdrop hgo hgd
          have hs60 : s.size ≤ 251664000 := by have : k * 4194400 ≤ 60 * 4194400 := Nat.mul_le_mul_right _ (by omega); omega
          go_wp2_with fail
          refine (specApply_any _ _ L es[k] _ ((hlib.keep (alloc_below _ _))) hLn hLo (hvb.keep (alloc_below _ _)) hek).mono ?_
          rintro r w1 ⟨v1, rfl, ho1, hb1⟩
          rw [HP.out] at ho1 ⊢
          simp only [Option.isSome_some, Option.getD_some] at ho1 ⊢
          obtain ⟨a5, c5, rfl⟩ := ho1.at.shape
          have hB1 : Below (wr.heap.size + 1) (wr.alloc (.cells #[.int .i64 es[k].kind, .string es[k].name, .string es[k].to, .slice ab es[k].body.length cb] 54)) w1 := hb1.mono (by simp)
          obtain ⟨x0, x1, x2, x3, z1, hB1'⟩ := box4 hB1
          clear hb1
          go_wp2_with (first | (go_at_call 82; refine (joText_any numOk _ L R es[k] _ (hvb.keep hB1') hek HP.out).mono ?_; rintro r w2 ⟨rfl, hb2⟩) | (go_at_call 89; refine (joRecord_any (txtE es[k]) _ htz).mono ?_; rintro r w3 ⟨rfl, hb3⟩))
          have hbel2 : Below w.heap.size w w3 := hbel.trans ((hB1'.trans ((hb2.trans (hb3.mono hb2.size)).mono hB1'.size)).mono hbel.size)
          have hst2 : JoSt es w w3 _ (s ++ recT (txtE es[k])) (k + 1) R := ⟨ho1.at.keep (hb2.trans (hb3.mono hb2.size)), hgR, hgo2, hbel2, hsz2⟩
          clear hgo2 ho1 hbel2 hB1 hB1' hb2 hb3 hlib hgR
          go_roundw
          case rel => exact ⟨k + 1, R, _, by omega, by go_num, rfl, hst2⟩
          case measure => simp [intOf]; omega
      · obtain rfl : k = es.length := by omega
        have h0 := hgo.out
        rw [List.drop_length, journ] at h0
        have hs60 : s.size ≤ 251664000 := by have : es.length * 4194400 ≤ 60 * 4194400 := Nat.mul_le_mul_right _ (by omega); omega
        by_cases hz : s.size ≤ 60000
        · have HJ : Hid (journal es = some s) := (show _ = _ by unfold journal; rw [if_pos h60, h0]; simp [hz])
          have hz2 : ¬ (60000 : Int) < s.size := by omega
          clear h0 hgo hat
          go_wp2
          go_ret2
          exact ⟨by rw [HJ.out]; rfl, hbel⟩
        · have HJ : Hid (journal es = none) := (show _ = _ by unfold journal; rw [if_pos h60, h0]; simp [hz])
          have hz2 : (60000 : Int) < s.size := by omega
          clear h0 hgo hat
          go_wp2
          go_ret2
          exact ⟨by rw [HJ.out]; rfl, hbel⟩
  · have g1 : (60 : Int) < es.length := by omega
    have HJ : Hid (journal es = none) := (show _ = _ by unfold journal; rw [if_neg h60])
    clear hat
    go_enter Tryz.func42, Tryz.ntmps42
    go_wp2
    go_ret2
    exact ⟨by rw [HJ.out]; rfl, Below.refl _ _⟩

theorem EnsAt.shapeE {w : World} {v : Value} {L : List En} (h : EnsAt w v L) : ∃ a c, v = .slice a L.length c := by
  obtain ⟨a, cap, rfl, _⟩ := h; exact ⟨a, cap, rfl⟩
set_option maxRecDepth 100000 in
set_option maxHeartbeats 4000000 in
theorem lawJo_any (v : Value) (es : List En) (w : World) (htab : PowTab w) (hv : EnsAt w v es) (hn : es.length ≤ 1048576) (hs : ∀ x ∈ es, EnOk x) :
    Calls Tryz.prog 8 #[v] w fun r w' => r = .returned (.bool true) ∧ Below w.heap.size w w' := by
  obtain ⟨a, cap, rfl⟩ : ∃ a cap, v = .slice a es.length cap := by obtain ⟨a, cap, rfl, _⟩ := hv; exact ⟨a, cap, rfl⟩
  have hb : ∀ d ∈ es, d.body.length ≤ 1048576 := fun d hd => (hs d hd).2.2.2
  obtain ⟨tx, htx⟩ : ∃ tx, (journal es).getD ⟨#[]⟩ = tx := ⟨_, rfl⟩
  obtain ⟨ok, hok⟩ : ∃ ok, (journal es).isSome = ok := ⟨_, rfl⟩
  have HR := Lib.hid htx
  have HOK := Lib.hid hok
  clear htx hok
  have hbne := bne_self_false ok
  have hsne : (tx.toList != tx.toList) = false := by simp
  have hseq : (tx.toList == tx.toList) = true := by simp
  go_enter Tryz.func8, Tryz.ntmps8
  go_wp2_with fail
  refine (szEntryS_any _ es _ _ hv hs hn (by omega) (by omega)).mono ?_
  rintro r w1 ⟨n1, rfl, hn1, hn1', hb1⟩
  by_cases hneg : n1 < 0
  · go_wp2
    go_ret
    exact ⟨rfl, hb1⟩
  have hnn : ¬ n1 < 0 := hneg
  go_wp2_with (go_at_call 43; refine (toEntryS_any _ es _ (hv.keep hb1) hn hb).mono ?_; rintro r w2 ⟨v2, rfl, ho2, hb2⟩; obtain ⟨a2, c2, rfl⟩ := ho2.at.shapeE)
  refine (specJournal_any _ es _ ho2.at hn hs).mono ?_
  rintro r w3 ⟨rfl, hb3⟩
  rw [HOK.out, HR.out]
  have hB3 := hb1.trans ((hb2.trans (hb3.mono hb2.size)).mono hb1.size)
  clear ho2 hb2 hb3
  go_wp2_with fail
  refine (toEntryS_any _ es _ (hv.keep hB3) hn hb).mono ?_
  rintro r w4 ⟨v4, rfl, ho4, hb4⟩
  obtain ⟨a4, c4, rfl⟩ := ho4.at.shapeE
  have hB4 := hB3.trans (hb4.mono hB3.size)
  go_wp2_with fail
  refine (implJournal_any _ es _ (htab.keep hB4) ho4.at hn hs).mono ?_
  rintro r w5 ⟨rfl, hb5⟩
  rw [HOK.out, HR.out]
  have hB5 := hB4.trans (hb5.mono hB4.size)
  go_wp2_with fail
  refine (toEntryS_any _ es _ (hv.keep hB5) hn hb).mono ?_
  rintro r w6 ⟨v6, rfl, ho6, hb6⟩
  obtain ⟨a6, c6, rfl⟩ := ho6.at.shapeE
  have hB6 := hB5.trans (hb6.mono hB5.size)
  go_wp2_with fail
  refine (eqEntryS_any _ _ es es _ (ho4.at.keep (hb5.trans (hb6.mono hb5.size))) ho6.at hn hn hb hb).mono ?_
  rintro r w7 ⟨rfl, hb7⟩
  rw [show decide (es = es) = true by simp]
  go_wp2
  go_ret
  exact ⟨rfl, hB6.trans (hb7.mono hB6.size)⟩
end Go.Proofs.YtldhpaflmnlcaaaGreatDoor
