/-
  A slice of entries opened. Own work.
-/
import Derived.Test.YtldhpaflmnlcaaaGreatDoorQA
set_option linter.all false
namespace Go.Proofs.YtldhpaflmnlcaaaGreatDoor
open Go.ChangeShapes Go.WideShapes Go.Deep

section
variable {H : Type} {enc : TypeId × Value → H} {w : World} {base : Nat} {spare : Nat → Bool} {held : Bool}

theorem open_ens {fuel : Nat} {cs : List Value} {x : DataW H × List MemPlace} (h : DataW.trod enc Tryz.prog w base spare held fuel 60 cs = some x) :
    ∃ (v : Value) (L : List En), cs = [v] ∧ EnsAt w v L ∧ L.length + 1 ≤ Rows.uptoBulk x.1 ∧ (∀ d ∈ L, d.name.size ≤ Rows.uptoBulk x.1 ∧ d.to.size ≤ Rows.uptoBulk x.1 ∧ (∀ y ∈ d.body, y.name.size ≤ Rows.uptoBulk x.1) ∧ d.body.length ≤ Rows.uptoBulk x.1) := by
  rcases open_slice Tryz.underlying60 h with ⟨rfl, rfl⟩ | ⟨a, len, cap, m, n, D, Pl, rfl, hb, hl, hm, hmm, rfl, hx⟩
  · exact ⟨_, [], rfl, ⟨none, 0, rfl, Nat.le_refl _, fun i hi => absurd hi (Nat.not_lt_zero _)⟩, by simp [Rows.uptoBulk], (fun _ h => by cases h)⟩
  have hlm : len ≤ m := by rw [hmm]; split <;> omega
  rw [show Tryz.prog.cellsOf 49 = 4 by kernel_rfl] at hx
  have each : ∀ i, i < len → ∃ d : En, (∃ b o, a = ⟨b, o, none⟩ ∧ EnAt w d b (o + i * 4)) ∧ d.name.size ≤ Rows.uptoBulk (D i) ∧ d.to.size ≤ Rows.uptoBulk (D i) ∧ (∀ y ∈ d.body, y.name.size ≤ Rows.uptoBulk (D i)) ∧ d.body.length ≤ Rows.uptoBulk (D i) := by
    intro i hi
    obtain ⟨cs', h1, h2⟩ := hx i (by omega)
    obtain ⟨v, d, rfl, hv, hd⟩ := open_en h2
    obtain ⟨_, _, hcell⟩ := World.cells?_some h1
    have g0 := hcell 0 (by omega)
    have g1 := hcell 1 (by omega)
    have g2 := hcell 2 (by omega)
    have g3 := hcell 3 (by omega)
    rw [add_add] at g0 g1 g2 g3
    obtain ⟨b, o, sp⟩ := a
    obtain rfl : sp = none := by
      obtain ⟨_, z1, _⟩ := hx 0 (by omega)
      exact spot_of (a := ⟨b, o, sp⟩) (n := 4) (by omega) (by simpa using z1)
    rw [add_plain] at g0 g1 g2 g3
    exact ⟨d, ⟨b, o, rfl, by simpa using g0, by simpa [Nat.add_assoc] using g1, by simpa [Nat.add_assoc] using g2, v, by simpa [Nat.add_assoc] using g3, hv⟩, hd⟩
  haveI : Inhabited En := ⟨⟨0, .empty, .empty, []⟩⟩
  obtain ⟨f, hf⟩ := choose_lt each
  have hs := bulks.slice_elems (H := H) ((List.range len).map D) ((List.range (m - len)).map fun j => D (len + j))
  have hln := bulks.slice_le (H := H) ((List.range len).map D) ((List.range (m - len)).map fun j => D (len + j))
  refine ⟨_, (List.range len).map f, rfl, ⟨some a, cap, by simp, by simpa using hl, fun i hi => ?_⟩, ?_, ?_⟩
  · simp at hi
    obtain ⟨b, o, rfl, hd⟩ := (hf i hi).1
    exact ⟨b, o, rfl, by simpa using hi, by simpa using hd⟩
  · simp only [List.length_map, List.length_range] at hln ⊢
    omega
  · intro d hd
    obtain ⟨i, hi, rfl⟩ := List.mem_map.1 hd
    have hi' := List.mem_range.1 hi
    have hp := bulks.part_le (H := H) (d := D i) (l := (List.range len).map D) (List.mem_map.2 ⟨i, hi, rfl⟩)
    obtain ⟨_, q1, q0, q2, q3⟩ := hf i hi'
    refine ⟨by simp only; omega, by simp only; omega, fun y hy => ?_, by simp only; omega⟩
    have := q2 y hy
    simp only
    omega
end
end Go.Proofs.YtldhpaflmnlcaaaGreatDoor
