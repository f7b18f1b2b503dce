/-
  Small facts for the laws of entries. Own work.
-/
import Derived.Test.YtikgblkfmpecfaaGreatDoorKH
import Derived.Test.YtikgblkfmpecfaaGreatDoorKC
import Derived.Test.YtikgblkfmpecfaaGreatDoorKF
import Derived.Test.YtikgblkfmpecfaaGreatDoorKA
set_option linter.all false
set_option maxRecDepth 100000
set_option maxHeartbeats 8000000
namespace Go.Proofs.YtikgblkfmpecfaaGreatDoor
open Go.RowKit
theorem DfsRow.exc {T:Nat → Prop} {w w':World} {B:Nat} {v:Value} {xs:List (Df × Value)} (h:DfsRow w B v xs) (hE:Exc T w w') (hT:∀ k,T k → k<B):DfsRow w' B v xs :=
 ⟨owns_exc hE h.1 (fun k hk ht=>by have:=(World.ownsRow.lt h.1 k hk).1;have:=hT k ht;omega),
  fun x hx=>owns_exc hE (h.2.1 x hx) (fun k hk ht=>by have:=(World.ownsRow.lt (h.2.1 x hx) k hk).1;have:=hT k ht;omega),h.2.2⟩
theorem NdsOwn.exc {T:Nat → Prop} {w w':World} {B:Nat} {v:Value} {ns:List Nd} (h:NdsOwn w B v ns) (hE:Exc T w w') (hT:∀ k,v.ownBlock=some k → ¬ T k):NdsOwn w' B v ns:=owns_exc hE h hT
end Go.Proofs.YtikgblkfmpecfaaGreatDoor
/-
  Small facts for the laws whose results are libraries. Own work.
-/
namespace Go.Proofs.YtikgblkfmpecfaaGreatDoor
open Go.RowKit
end Go.Proofs.YtikgblkfmpecfaaGreatDoor
