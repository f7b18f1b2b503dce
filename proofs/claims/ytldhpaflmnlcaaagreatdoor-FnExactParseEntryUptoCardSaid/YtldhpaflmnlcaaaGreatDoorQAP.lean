/-
  Small facts for the laws of entries. Own work.
-/
import Derived.Test.YtldhpaflmnlcaaaGreatDoorQH
import Derived.Test.YtldhpaflmnlcaaaGreatDoorQHE
set_option linter.all false
namespace Go.Proofs.YtldhpaflmnlcaaaGreatDoor
open Go.RowKit
theorem box4 {w W:World} {a b c d:Value} {t:TypeId} (hB:Below (w.heap.size+1) (w.alloc (.cells #[a,b,c,d] t)) W) :
  W.cell? ⟨w.heap.size,0,none⟩ = some a∧W.cell? ⟨w.heap.size,1,none⟩ = some b∧W.cell? ⟨w.heap.size,2,none⟩ = some c∧W.cell? ⟨w.heap.size,3,none⟩ = some d∧w.heap.size < W.heap.size∧Below w.heap.size w W:=by
 refine ⟨?_,?_,?_,?_,by have:=hB.size;simp at this;omega,(alloc_below _ _).trans (hB.mono (by omega))⟩
 ·rw [hB.cell (p:=⟨w.heap.size,0,none⟩) (by simp)];simp
 ·rw [hB.cell (p:=⟨w.heap.size,1,none⟩) (by simp)];simp
 ·rw [hB.cell (p:=⟨w.heap.size,2,none⟩) (by simp)];simp
 ·rw [hB.cell (p:=⟨w.heap.size,3,none⟩) (by simp)];simp
def Sub (w w':World):Prop:=∀ b o x,w.cell? ⟨b,o,none⟩ = some x → w'.cell? ⟨b,o,none⟩ = some x
theorem NdsAt.sub {w w':World} {v:Value} {ns:List Nd} (h:NdsAt w v ns) (hk:Sub w w'):NdsAt w' v ns :=
 SlAt.mono h fun _ _ _ ⟨hi,r⟩=>⟨hi,hk _ _ _ r.1,hk _ _ _ r.2.1,hk _ _ _ r.2.2⟩
theorem DfsAt.sub {w w':World} {v:Value} {L:List Df} (h:DfsAt w v L) (hk:Sub w w'):DfsAt w' v L :=
 SlAt.mono h fun _ _ _ ⟨hi,h1,h2,h3,v,h4,h5⟩=>⟨hi,hk _ _ _ h1,hk _ _ _ h2,hk _ _ _ h3,v,hk _ _ _ h4,h5.sub hk⟩
theorem sub_below {w w':World} (h:Below w.heap.size w w'):Sub w w':=fun _ _ _ hx=>cell_keep h hx
theorem sub_exc {T:Nat → Prop} {w0 w w':World} (h0:Below w0.heap.size w0 w) (h:Exc T w w') (hT:∀ k,T k → w0.heap.size≤k):Sub w0 w':=by
 intro b o x hx
 have hb:=cell_lt hx
 have h1:=h0.size
 rw [h.cell.1 b o (by omega) (fun ht=>by have:=hT b ht;omega)]
 exact cell_keep h0 hx
theorem DfsRow.exc {T:Nat → Prop} {w w':World} {B:Nat} {v:Value} {xs:List (Df × Value)} (h:DfsRow w B v xs) (hE:Exc T w w') (hT:∀ k,T k → k < B):DfsRow w' B v xs :=
 ⟨owns_exc hE h.1 (fun k hk ht=>by have:=(World.ownsRow.lt h.1 k hk).1;have:=hT k ht;omega),
  fun x hx=>owns_exc hE (h.2.1 x hx) (fun k hk ht=>by have:=(World.ownsRow.lt (h.2.1 x hx) k hk).1;have:=hT k ht;omega),h.2.2⟩
theorem NdsOwn.exc {T:Nat → Prop} {w w':World} {B:Nat} {v:Value} {ns:List Nd} (h:NdsOwn w B v ns) (hE:Exc T w w') (hT:∀ k,v.ownBlock = some k → ¬ T k):NdsOwn w' B v ns:=owns_exc hE h hT
theorem ownD_lt {w:World} {B:Nat} {v:Value} {xs:List (Df × Value)} (h:DfsRow w B v xs):∀ k,OwnD v xs k → B≤k∧k < w.heap.size:=by
 rintro k (hk|⟨x,hx,hk⟩)
 ·exact World.ownsRow.lt h.1 k hk
 ·exact World.ownsRow.lt (h.2.1 x hx) k hk
theorem good_mk {R:List Df} (hl:R.length≤12) (hb:∀ d ∈ R,d.body.length≤400):mkLen R≤1203 * R.length:=by
 induction R with
 | nil=>simp [mkLen]
 | cons d r ih =>
  have h1:=hb d (List.mem_cons_self ..)
  have h2:=ih (by simp at hl;omega) (fun x hx=>hb x (List.mem_cons_of_mem _ hx))
  simp only [mkLen,List.length_cons]
  omega
theorem res_ok {L:List Df} {e:En}:((applyE L e).getD []).length≤12∧(∀ d ∈ (applyE L e).getD [],d.body.length≤400):=by
 cases h:applyE L e with
 | none=>simp
 | some R =>
  have hg:=applyE_good h
  exact ⟨good_len hg,fun d hd=>(good_bnd hg d hd).2.1⟩
theorem bne_self_false (b:Bool):(b != b) = false:=by cases b <;> rfl
end Go.Proofs.YtldhpaflmnlcaaaGreatDoor
