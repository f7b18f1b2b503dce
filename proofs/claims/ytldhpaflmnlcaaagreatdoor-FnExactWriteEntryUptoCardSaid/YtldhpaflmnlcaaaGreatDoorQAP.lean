/-
  Small facts for the laws of entries. Own work.
-/
import Derived.Test.YtldhpaflmnlcaaaGreatDoorQH
import Derived.Test.YtldhpaflmnlcaaaGreatDoorQC
import Derived.Test.YtldhpaflmnlcaaaGreatDoorQF
import Derived.Test.YtldhpaflmnlcaaaGreatDoorQA
set_option linter.all false
set_option maxRecDepth 100000
set_option maxHeartbeats 8000000
namespace Go.Proofs.YtldhpaflmnlcaaaGreatDoor
open Go.RowKit
theorem box4 {w W:World} {a b c d:Value} {t:TypeId} (hB:Below (w.heap.size+1) (w.alloc (.cells #[a,b,c,d] t)) W) :
  W.cell? ⟨w.heap.size,0,none⟩=some a∧W.cell? ⟨w.heap.size,1,none⟩=some b∧W.cell? ⟨w.heap.size,2,none⟩=some c∧W.cell? ⟨w.heap.size,3,none⟩=some d∧w.heap.size<W.heap.size∧Below w.heap.size w W:=by
 refine ⟨?_,?_,?_,?_,by have:=hB.size;simp at this;omega,(alloc_below _ _).trans (hB.mono (by omega))⟩
 ·rw [hB.cell (p:=⟨w.heap.size,0,none⟩) (by simp)];simp
 ·rw [hB.cell (p:=⟨w.heap.size,1,none⟩) (by simp)];simp
 ·rw [hB.cell (p:=⟨w.heap.size,2,none⟩) (by simp)];simp
 ·rw [hB.cell (p:=⟨w.heap.size,3,none⟩) (by simp)];simp
def Sub (w w':World):Prop:=∀ b o x,w.cell? ⟨b,o,none⟩=some x → w'.cell? ⟨b,o,none⟩=some x
theorem NdsAt.sub {w w':World} {v:Value} {ns:List Nd} (h:NdsAt w v ns) (hk:Sub w w'):NdsAt w' v ns :=
 SlAt.mono h fun _ _ _ ⟨hi,r⟩=>⟨hi,hk _ _ _ r.1,hk _ _ _ r.2.1,hk _ _ _ r.2.2⟩
theorem DfsAt.sub {w w':World} {v:Value} {L:List Df} (h:DfsAt w v L) (hk:Sub w w'):DfsAt w' v L :=
 SlAt.mono h fun _ _ _ ⟨hi,h1,h2,h3,v,h4,h5⟩=>⟨hi,hk _ _ _ h1,hk _ _ _ h2,hk _ _ _ h3,v,hk _ _ _ h4,h5.sub hk⟩
theorem sub_below {w w':World} (h:Below w.heap.size w w'):Sub w w':=fun _ _ _ hx=>cell_keep h hx
theorem sub_exc {T:Nat → Prop} {w0 w w':World} (h0:Below w0.heap.size w0 w) (h:Exc T w w') (hT:∀ k,T k → w0.heap.size≤k):Sub w0 w':=by
 intro b o x hx
 have hb:=cell_lt hx
 have h1:=h0.size
 rw [h.cell.1 b o (by omega) (fun ht=>by have:=hT b ht;omega)]
 exact cell_keep h0 hx
theorem DfsRow.exc {T:Nat → Prop} {w w':World} {B:Nat} {v:Value} {xs:List (Df × Value)} (h:DfsRow w B v xs) (hE:Exc T w w') (hT:∀ k,T k → k<B):DfsRow w' B v xs :=
 ⟨owns_exc hE h.1 (fun k hk ht=>by have:=(World.ownsRow.lt h.1 k hk).1;have:=hT k ht;omega),
  fun x hx=>owns_exc hE (h.2.1 x hx) (fun k hk ht=>by have:=(World.ownsRow.lt (h.2.1 x hx) k hk).1;have:=hT k ht;omega),h.2.2⟩
theorem NdsOwn.exc {T:Nat → Prop} {w w':World} {B:Nat} {v:Value} {ns:List Nd} (h:NdsOwn w B v ns) (hE:Exc T w w') (hT:∀ k,v.ownBlock=some k → ¬ T k):NdsOwn w' B v ns:=owns_exc hE h hT
end Go.Proofs.YtldhpaflmnlcaaaGreatDoor
/-
  Small facts for the laws whose results are libraries. Own work.
-/
namespace Go.Proofs.YtldhpaflmnlcaaaGreatDoor
open Go.RowKit
theorem ndsSub {T:Nat → Prop} {w w':World} {v:Value} {ns:List Nd} (h:NdsAt w v ns) (hk:∀ b o x,w.cell? ⟨b,o,none⟩=some x → w'.cell? ⟨b,o,none⟩=some x):NdsAt w' v ns :=
 SlAt.mono h fun _ _ _ ⟨hi,r⟩=>⟨hi,hk _ _ _ r.1,hk _ _ _ r.2.1,hk _ _ _ r.2.2⟩
theorem dfsSub {w w':World} {v:Value} {L:List Df} (h:DfsAt w v L) (hk:∀ b o x,w.cell? ⟨b,o,none⟩=some x → w'.cell? ⟨b,o,none⟩=some x):DfsAt w' v L :=
 SlAt.mono h fun _ _ _ ⟨hi,h1,h2,h3,v,h4,h5⟩=>⟨hi,hk _ _ _ h1,hk _ _ _ h2,hk _ _ _ h3,v,hk _ _ _ h4,ndsSub (T:=fun _=>True) h5 hk⟩
theorem subExc {T:Nat → Prop} {w0 w w':World} (h0:Below w0.heap.size w0 w) (h:Exc T w w') (hT:∀ k,T k → w0.heap.size≤k):∀ b o x,w0.cell? ⟨b,o,none⟩=some x → w'.cell? ⟨b,o,none⟩=some x:=by
 intro b o x hx
 have hb:=cell_lt hx
 have h1:=h0.size
 rw [h.cell.1 b o (by omega) (fun ht=>by have:=hT b ht;omega)]
 exact cell_keep h0 hx
theorem bne_selfL (b:Bool):(b != b)=false:=by cases b <;> rfl
theorem goodLib_okP {L:List Df} (h:good L=true):(∀ x ∈ L,DfOk x)∧L.length≤1048576:=by
 have h1:=good_bnd h
 have h2:=good_len h
 refine ⟨fun x hx=>?_,by omega⟩
 obtain ⟨q1,q2,q3⟩:=h1 x hx
 exact ⟨by omega,fun n hn=>by have:=q3 n hn;omega,by omega⟩
theorem dfsOwn_none (w:World) (B:Nat):DfsOwn w B (.slice none 0 0) []:=⟨[],rfl,⟨by simp,.inl ⟨rfl,rfl⟩⟩,by simp,List.Pairwise.nil⟩
end Go.Proofs.YtldhpaflmnlcaaaGreatDoor
