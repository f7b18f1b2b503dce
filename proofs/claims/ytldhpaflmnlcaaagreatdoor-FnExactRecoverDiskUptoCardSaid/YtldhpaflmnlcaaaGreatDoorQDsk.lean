/-
  Disks: which are valid, and equal ones; CountAcknowledged, the program's, the reference's and its law. Own work.
-/
import Derived.Test.YtldhpaflmnlcaaaGreatDoorQRS
import Derived.Test.YtldhpaflmnlcaaaGreatDoorQRI
import Derived.Test.YtldhpaflmnlcaaaGreatDoorQT
import Derived.Test.YtldhpaflmnlcaaaGreatDoorQA
import Derived.Test.YtldhpaflmnlcaaaGreatDoorQC
set_option linter.all false
set_option maxRecDepth 100000
set_option maxHeartbeats 8000000
namespace Go.Proofs.YtldhpaflmnlcaaaGreatDoor
open Go.RowKit
theorem isDisk_any (s t:ByteArray) (w:World) (hs:s.size≤4194304) (ht:t.size≤9999999) :
  Calls Tryz.prog 97 #[.agg #[.string s,.string t]] w fun e w'=>e=.returned (.bool (decide (s.size+t.size≤60000)))∧Below w.heap.size w w':=by
 have hz:=bsize s t
 have hlim:¬ 9223372036854775807<s.size+t.size:=by omega
 go_enter Tryz.func97,Tryz.ntmps97
 go_wp2_with (go_at_call 90;refine (isJour_any (s ++ t) _ (by omega)).mono ?_;rintro r w1 ⟨rfl,rfl⟩;rw [hz])
 go_ret
 exact ⟨rfl,alloc_below _ _⟩
theorem joValid_any (s t:ByteArray) (w:World) (hs:s.size≤4194304) (ht:t.size≤9999999) :
  Calls Tryz.prog 95 #[.agg #[.string s,.string t]] w fun e w'=>e=.returned (.bool (decide (s.size+t.size≤60000)))∧Below w.heap.size w w':=by
 by_cases h1:s.size≤60000
 ·by_cases h2:s.size+t.size≤60000
  ·have HH:=Lib.hid h2
   have g1:(s.size:Int)≤60000:=by omega
   have g2:(t.size:Int)≤60000 - s.size:=by omega
   clear h1 h2
   go_enter Tryz.func95,Tryz.ntmps95
   go_wp2
   go_ret
   exact ⟨yes_bool HH.out,alloc_below _ _⟩
  ·have HH:=Lib.hid h2
   have g1:(s.size:Int)≤60000:=by omega
   have g2:¬ (t.size:Int)≤60000 - s.size:=by omega
   clear h1 h2
   go_enter Tryz.func95,Tryz.ntmps95
   go_wp2
   go_ret
   exact ⟨no_bool HH.out,alloc_below _ _⟩
 ·have HH:=Lib.hid (show ¬ s.size+t.size≤60000 by omega)
  have g1:¬ (s.size:Int)≤60000:=by omega
  clear h1
  go_enter Tryz.func95,Tryz.ntmps95
  go_wp2
  go_ret
  exact ⟨no_bool HH.out,alloc_below _ _⟩
theorem eqDisk_any (s t:ByteArray) (w:World) :
  Calls Tryz.prog 61 #[.agg #[.string s,.string t],.agg #[.string s,.string t]] w fun e w'=>e=.returned (.bool true)∧Below w.heap.size w w':=by
 have h1:(s.toList != s.toList)=false:=by simp
 have h2:(t.toList != t.toList)=false:=by simp
 go_enter Tryz.func61,Tryz.ntmps61
 go_wp2
 go_ret
 exact ⟨rfl,(alloc_below _ _).alloc (by simp) _⟩
theorem dsk_disk {w:World} {s t:ByteArray} {d:Bool} (hd:decide (s.size+t.size≤60000)=d) (hs:s.size≤4194304) (ht:t.size≤9999999) :
  Calls Tryz.prog 97 #[.agg #[.string s,.string t]] w (fun e w'=>e=.returned (.bool d)∧Below w.heap.size w w') ∧
  Calls Tryz.prog 95 #[.agg #[.string s,.string t]] w (fun e w'=>e=.returned (.bool d)∧Below w.heap.size w w'):=by
 subst hd
 exact ⟨isDisk_any s t w hs ht,joValid_any s t w hs ht⟩
theorem bne_selfD (b:Bool):(b != b)=false:=by cases b <;> rfl
theorem box2 {w W:World} {a b:Value} {t:TypeId} (hB:Below (w.heap.size+1) (w.alloc (.cells #[a,b] t)) W) :
  W.cell? ⟨w.heap.size,0,none⟩=some a∧W.cell? ⟨w.heap.size,1,none⟩=some b∧(∀ j,W.frozen? ⟨w.heap.size,j,none⟩=false)∧w.heap.size<W.heap.size∧Below w.heap.size w W:=by
 refine ⟨?_,?_,fun j=>?_,by have:=hB.size;simp at this;omega,(alloc_below _ _).trans (hB.mono (by omega))⟩
 ·rw [hB.cell (p:=⟨w.heap.size,0,none⟩) (by simp)];simp
 ·rw [hB.cell (p:=⟨w.heap.size,1,none⟩) (by simp)];simp
 ·rw [hB.frozen (p:=⟨w.heap.size,j,none⟩) (by simp)];simp
end Go.Proofs.YtldhpaflmnlcaaaGreatDoor
