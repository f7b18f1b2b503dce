/-
  Small facts for the laws whose results are libraries. Own work.
-/
import Derived.Test.YtldhpaflmnlcaaaGreatDoorQHE
import Derived.Test.YtldhpaflmnlcaaaGreatDoorQC
import Derived.Test.YtldhpaflmnlcaaaGreatDoorQF
import Derived.Test.YtldhpaflmnlcaaaGreatDoorQA
set_option linter.all false
namespace Go.Proofs.YtldhpaflmnlcaaaGreatDoor
open Go.RowKit
theorem ndsSub {T:Nat → Prop} {w w':World} {v:Value} {ns:List Nd} (h:NdsAt w v ns) (hk:∀ b o x,w.cell? ⟨b,o,none⟩ = some x → w'.cell? ⟨b,o,none⟩ = some x):NdsAt w' v ns :=
 SlAt.mono h fun _ _ _ ⟨hi,r⟩=>⟨hi,hk _ _ _ r.1,hk _ _ _ r.2.1,hk _ _ _ r.2.2⟩
theorem dfsSub {w w':World} {v:Value} {L:List Df} (h:DfsAt w v L) (hk:∀ b o x,w.cell? ⟨b,o,none⟩ = some x → w'.cell? ⟨b,o,none⟩ = some x):DfsAt w' v L :=
 SlAt.mono h fun _ _ _ ⟨hi,h1,h2,h3,v,h4,h5⟩=>⟨hi,hk _ _ _ h1,hk _ _ _ h2,hk _ _ _ h3,v,hk _ _ _ h4,ndsSub (T:=fun _=>True) h5 hk⟩
theorem subExc {T:Nat → Prop} {w0 w w':World} (h0:Below w0.heap.size w0 w) (h:Exc T w w') (hT:∀ k,T k → w0.heap.size≤k):∀ b o x,w0.cell? ⟨b,o,none⟩ = some x → w'.cell? ⟨b,o,none⟩ = some x:=by
 intro b o x hx
 have hb:=cell_lt hx
 have h1:=h0.size
 rw [h.cell.1 b o (by omega) (fun ht=>by have:=hT b ht;omega)]
 exact cell_keep h0 hx
theorem ownL_lt {w:World} {B:Nat} {v:Value} {xs:List (Df × Value)} (h:DfsRow w B v xs):∀ k,OwnD v xs k → B≤k∧k < w.heap.size:=by
 rintro k (hk|⟨x,hx,hk⟩)
 ·exact World.ownsRow.lt h.1 k hk
 ·exact World.ownsRow.lt (h.2.1 x hx) k hk
theorem mk_small {R:List Df} (hl:R.length≤12) (hb:∀ d ∈ R,d.body.length≤400):mkLen R≤1203 * R.length:=by
 induction R with
 | nil=>simp [mkLen]
 | cons d r ih =>
  have h1:=hb d (List.mem_cons_self ..)
  have h2:=ih (by simp at hl;omega) (fun x hx=>hb x (List.mem_cons_of_mem _ hx))
  simp only [mkLen,List.length_cons]
  omega
theorem good_small {R:List Df} (h:good R = true):R.length≤12∧(∀ d ∈ R,d.body.length≤400)∧mkLen R≤14436:=by
 have hl:=good_len h
 have hb:∀ d ∈ R,d.body.length≤400:=fun d hd=>(good_bnd h d hd).2.1
 have:=mk_small hl hb
 exact ⟨hl,hb,by omega⟩
theorem bne_selfL (b:Bool):(b != b) = false:=by cases b <;> rfl
def LibR (R:List Df) (ok:Bool) (w:World) (e:Ending) (w':World):Prop :=
 ∃ v',e = .returned (.tuple #[v',.bool ok])∧DfsOwn w' w.heap.size v' R∧Below w.heap.size w w'
theorem goodLib_okP {L:List Df} (h:good L = true):(∀ x ∈ L,DfOk x)∧L.length≤1048576:=by
 have h1:=good_bnd h
 have h2:=good_len h
 refine ⟨fun x hx=>?_,by omega⟩
 obtain ⟨q1,q2,q3⟩:=h1 x hx
 exact ⟨by omega,fun n hn=>by have:=q3 n hn;omega,by omega⟩
theorem row_below {w wr w2 w':World} {v:Value} {xs:List (Df × Value)} {o o2:Obj} (hrow:DfsRow wr w.heap.size v xs) (hbel:Below w.heap.size w wr) (hb2:Below wr.heap.size wr w2)
  (hg:((w2.alloc o2).alloc o).grownBy w' v.ownBlock):Below w.heap.size w w':=by
 have h1:=hbel.size
 have h2:=hb2.size
 exact (((hbel.trans (hb2.mono h1)).alloc (by omega) o2).alloc (by simp;omega) o).grown hg (by simp;omega) (fun j hj=>(World.ownsRow.lt hrow.1 j hj).1)
theorem dfsOwn_none (w:World) (B:Nat):DfsOwn w B (.slice none 0 0) []:=⟨[],rfl,⟨by simp,.inl ⟨rfl,rfl⟩⟩,by simp,List.Pairwise.nil⟩
end Go.Proofs.YtldhpaflmnlcaaaGreatDoor
