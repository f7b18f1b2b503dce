/-
  The contract of FnExactJournalOf for its card. Own work, in the frame of the seat's UptoLaidToy.lean.
-/
import Derived.Test.YtldhpaflmnlcaaaGreatDoorCards
import Derived.Test.YtldhpaflmnlcaaaGreatDoorTie
import Derived.Test.YtldhpaflmnlcaaaGreatDoorQOpenE
import Derived.Test.YtldhpaflmnlcaaaGreatDoorQJ
import Derived.WalkKit
import Derived.ProofKit
import Derived.OpenShut
import Derived.ReadAgain
import Derived.Deep.DeepHandedRow
import Derived.Deep.DeepWitnessRowRef
import Derived.Lib.LaidTab
import Derived.Test.YtldhpaflmnlcaaaGreatDoorQZ
import Derived.Test.YtldhpaflmnlcaaaGreatDoorQY
set_option linter.all false

namespace Go.Proofs.YtldhpaflmnlcaaaGreatDoor.cardJo
open Go.ChangeShapes Go.WideShapes Go.ChangeAt Go.RowKit

set_option maxRecDepth 100000 in
theorem contract (H : Type) (enc : TypeId × Value → H) (W : World) (base : Nat) (args : Array Value) (ds gs : List (DataW H)) (before : List MemPlace)
    (hval : ∀ (j : Nat) t v, Tryz.f8.params[j]? = some t → args[j]? = some v → Value.okWide Tryz.prog W .any base t v)
    (hW : DataW.Whole enc Tryz.prog Tryz.f8.params.toList Rows.fnExactJournalOfSpec.vars false W args.toList ds gs before) (hk : Rows.uptoSmall H (ds ++ gs) = true) (hL : laidMetH Tryz.prog Rows.fnExactJournalOfUptoRow.laid W) (hsh : W.ShapedOpen Tryz.prog) :
    Calls Tryz.prog 8 args W fun e W' => ∃ v, e = .returned v ∧ Rows.fnExactJournalOfSpec.post enc Tryz.prog Tryz.f8 false true false false W args v W' := by
  have hW' := hW
  obtain ⟨p, q, hA0, hV, rfl, hfz, hnd⟩ := hW
  have hA : DataW.TrodAll enc Tryz.prog W 0 (fun _ => true) true Tryz.f8.params.toList args.toList ds p := hA0
  have hlt := hA.lt
  have hAk := hA
  rw [Tryz.params8] at hA hval
  obtain ⟨v0, vs0, d0, ds0, p0, q0, hargs, rfl, rfl, ⟨n0, h0⟩, r0⟩ := trodAll_cons hA
  obtain ⟨rfl, rfl, rfl⟩ := trodAll_nil r0
  obtain rfl : args = #[v0] := Array.toList_inj.1 hargs
  obtain ⟨rfl, rfl⟩ := trodVars_none hV
  obtain ⟨a, len, cap, rfl⟩ := okWide_slice Tryz.underlying60 (hval 0 60 v0 rfl rfl)
  obtain ⟨v, L, e0, hL0, hLn, hLo⟩ := open_ens h0
  have hb : Rows.uptoBulkAll _ ≤ 1048576 := of_decide_eq_true hk
  simp only [List.append_nil, Rows.uptoBulkAll] at hb
  obtain rfl : v = .slice a len cap := by simpa [Value.cells] using e0.symm
  refine (lawJo_any _ L W (powTab hL) hL0 (by simp only at hLn; omega) (fun x hx => ?_)).mono fun r W' ⟨hr, hg⟩ => ?_
  · obtain ⟨z1, z0, z2, z3⟩ := hLo x hx
    exact ⟨by simp only at z1; omega, by simp only at z0; omega, fun d hd => by have := z2 d hd; simp only at this; omega, by simp only at z3; omega⟩
  · subst hr
    simp only [List.append_nil] at hW' hAk hlt
    exact ⟨_, rfl, post_below (pv := []) hW' (fun _ _ _ => trodAll_cons_mk (shut_bool Tryz.underlying4 _) trodAll_mk0)
      (fun sp hsp => DataW.TrodAll.respare kids full (by rw [Tryz.params8]; decide) (carryAll hAk (fun x hx => sameAt_of_below hg (hlt x hx))) (fun x hx => hsp x hx)) (fun _ _ => rfl) (by simp)
      hg (ok_one (by kernel_rfl) rfl (okWide_bool_mk Tryz.underlying4 _))⟩
end Go.Proofs.YtldhpaflmnlcaaaGreatDoor.cardJo
