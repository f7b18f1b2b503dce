/-
  The reference's sxReadDef: small facts. Own work.
-/
import Derived.Test.YtikgblkfmpecfaaGreatDoorKFF
import Derived.Test.YtikgblkfmpecfaaGreatDoorKCC
import Derived.Test.YtikgblkfmpecfaaGreatDoorKL
set_option linter.all false
set_option maxRecDepth 100000
set_option maxHeartbeats 8000000
namespace Go.Proofs.YtikgblkfmpecfaaGreatDoor
open Go.RowKit
theorem tokFrom_code (s:ByteArray):∀ (n k:Nat),s.size - k=n → ∀ p,tokFrom s k=.error p → p.2 ≠ 0:=by
 intro n
 induction n using Nat.strongRecOn with
 | _ n ih =>
  intro k hn p h
  rw [tokFrom] at h
  split at h
  ·rename_i hk
   split at h
   ·exact ih (s.size - (k+1)) (by omega) (k+1) rfl p h
   ·split at h
    ·have he:=(endOf_le (p:=lodB) (s:=s) (i:=k+1) hk).1
     cases hr:tokFrom s (endOf lodB s (k+1)) with
     | ok r=>rw [hr] at h;cases h
     | error e=>rw [hr] at h;cases h;exact ih (s.size - endOf lodB s (k+1)) (by omega) _ rfl p hr
    ·split at h
     ·split at h
      ·cases h;simp
      ·have he:=(endOf_le (p:=digB) (s:=s) (i:=k+1) hk).1
       cases hr:tokFrom s (endOf digB s (k+1)) with
       | ok r=>rw [hr] at h;cases h
       | error e=>rw [hr] at h;cases h;exact ih (s.size - endOf digB s (k+1)) (by omega) _ rfl p hr
     ·split at h
      ·cases hr:tokFrom s (k+1) with
       | ok r=>rw [hr] at h;cases h
       | error e=>rw [hr] at h;cases h;exact ih (s.size - (k+1)) (by omega) _ rfl p hr
      ·cases h;simp
  ·cases h
theorem tokL_code {s:ByteArray} {p:Int × Int} (h:tokL s=.error p):p.2 ≠ 0:=by
 unfold tokL at h
 split at h
 ·cases h;simp
 ·exact tokFrom_code s _ 0 rfl p h
theorem chk_code {leaf:Nd → Option W2}:∀ (r:Rd) (i:Nat) (st:List W2) (p:Int × Int),chkGo leaf r i st=some p → p.2 ≠ 0
 | [],_,_,p,h=>by cases h
 | x :: r,i,st,p,h=>by
  unfold chkGo at h
  split at h
  ·cases h;simp
  ·split at h
   ·split at h
    ·split at h
     ·exact chk_code r _ _ p h
     ·cases h;simp
    ·cases h;simp
   ·split at h
    ·exact chk_code r _ _ p h
    ·cases h;simp only;split <;> simp
theorem ints_keep {w w':World} (hb:Below w.heap.size w w') {v:Value} {xs:List Int} (h:IntsAt w v xs):IntsAt w' v xs:=SlAt.mono h fun _ _ _ ⟨hi,r⟩=>⟨hi,cell_keep hb r⟩
end Go.Proofs.YtikgblkfmpecfaaGreatDoor
/-
  The reference's sxReadDef: nodes with a fault. Own work.
-/
namespace Go.Proofs.YtikgblkfmpecfaaGreatDoor
open Go.RowKit
end Go.Proofs.YtikgblkfmpecfaaGreatDoor
/-
  The reference's sxReadDef: a word that is no name. Own work.
-/
namespace Go.Proofs.YtikgblkfmpecfaaGreatDoor
open Go.RowKit
end Go.Proofs.YtikgblkfmpecfaaGreatDoor
/-
  The reference's sxReadDef: a definition. Own work.
-/
namespace Go.Proofs.YtikgblkfmpecfaaGreatDoor
open Go.RowKit
end Go.Proofs.YtikgblkfmpecfaaGreatDoor
/-
  The reference's sxReadDef: a name that is taken. Own work.
-/
namespace Go.Proofs.YtikgblkfmpecfaaGreatDoor
open Go.RowKit
end Go.Proofs.YtikgblkfmpecfaaGreatDoor
/-
  The reference's sxReadDef: all cases; ParseDef. Own work.
-/
namespace Go.Proofs.YtikgblkfmpecfaaGreatDoor
open Go.RowKit
end Go.Proofs.YtikgblkfmpecfaaGreatDoor
/-
  The reference's ParseDef. Own work.
-/
namespace Go.Proofs.YtikgblkfmpecfaaGreatDoor
open Go.RowKit
end Go.Proofs.YtikgblkfmpecfaaGreatDoor
