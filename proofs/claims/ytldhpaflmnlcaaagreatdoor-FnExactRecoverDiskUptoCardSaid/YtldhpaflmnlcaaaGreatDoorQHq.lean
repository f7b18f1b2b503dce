/-
  Small facts for the laws whose results are libraries, of marks. Own work.
-/
import Derived.Test.YtldhpaflmnlcaaaGreatDoorQAP
import Derived.Test.YtldhpaflmnlcaaaGreatDoorQM
set_option linter.all false
set_option maxRecDepth 100000
set_option maxHeartbeats 8000000
namespace Go.Proofs.YtldhpaflmnlcaaaGreatDoor
open Go.RowKit
theorem ownL_lt {w:World} {B:Nat} {v:Value} {xs:List (Df × Value)} (h:DfsRow w B v xs):∀ k,OwnD v xs k → B≤k∧k<w.heap.size:=by
 rintro k (hk|⟨x,hx,hk⟩)
 ·exact World.ownsRow.lt h.1 k hk
 ·exact World.ownsRow.lt (h.2.1 x hx) k hk
theorem mk_small {R:List Df} (hl:R.length≤12) (hb:∀ d ∈ R,d.body.length≤400):mkLen R≤1203 * R.length:=by
 induction R with
 | nil=>simp [mkLen]
 | cons d r ih =>
  have h1:=hb d (List.mem_cons_self ..)
  have h2:=ih (by simp at hl;omega) (fun x hx=>hb x (List.mem_cons_of_mem _ hx))
  simp only [mkLen,List.length_cons]
  omega
theorem good_small {R:List Df} (h:good R=true):R.length≤12∧(∀ d ∈ R,d.body.length≤400)∧mkLen R≤14436:=by
 have hl:=good_len h
 have hb:∀ d ∈ R,d.body.length≤400:=fun d hd=>(good_bnd h d hd).2.1
 have:=mk_small hl hb
 exact ⟨hl,hb,by omega⟩
end Go.Proofs.YtldhpaflmnlcaaaGreatDoor
