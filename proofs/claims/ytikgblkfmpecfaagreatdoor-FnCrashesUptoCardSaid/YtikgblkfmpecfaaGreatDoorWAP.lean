/-
  Small facts for the laws of entries. Own work.
-/
import Derived.Test.YtikgblkfmpecfaaGreatDoorWH
import Derived.Test.YtikgblkfmpecfaaGreatDoorWC
import Derived.Test.YtikgblkfmpecfaaGreatDoorWF
import Derived.Test.YtikgblkfmpecfaaGreatDoorWA
set_option linter.all false
set_option maxRecDepth 100000
set_option maxHeartbeats 8000000
namespace Go.Proofs.YtikgblkfmpecfaaGreatDoor
open Go.RowKit
theorem kX {w W:World} {a b c d:Value} {t:TypeId} (hB:Below (w.heap.size+1) (w.alloc (.cells #[a,b,c,d] t)) W) :
  W.cell? ⟨w.heap.size,0,none⟩=some a/\W.cell? ⟨w.heap.size,1,none⟩=some b/\W.cell? ⟨w.heap.size,2,none⟩=some c/\W.cell? ⟨w.heap.size,3,none⟩=some d/\w.heap.size<W.heap.size/\Below w.heap.size w W:=by
 refine⟨?_,?_,?_,?_,by have:=hB.size;simp at this;omega,(aj _ _).trans (hB.mono (by omega))⟩
 ·rw[hB.cell (p:=⟨w.heap.size,0,none⟩) (by simp)];simp
 ·rw[hB.cell (p:=⟨w.heap.size,1,none⟩) (by simp)];simp
 ·rw[hB.cell (p:=⟨w.heap.size,2,none⟩) (by simp)];simp
 ·rw[hB.cell (p:=⟨w.heap.size,3,none⟩) (by simp)];simp
def Sub (w w':World):Prop:=∀b o x,w.cell? ⟨b,o,none⟩=some x->w'.cell? ⟨b,o,none⟩=some x
theorem aZ.sub {w w':World} {v:Value} {ns:List Nd} (h:aZ w v ns) (hk:Sub w w'):aZ w' v ns :=
 iT.mono h λ_ _ _ ⟨hi,r⟩=>⟨hi,hk _ _ _ r.1,hk _ _ _ r.2.1,hk _ _ _ r.2.2⟩
theorem aG.sub {w w':World} {v:Value} {L:List Df} (h:aG w v L) (hk:Sub w w'):aG w' v L :=
 iT.mono h λ_ _ _ ⟨hi,h1,h2,h3,v,h4,h5⟩=>⟨hi,hk _ _ _ h1,hk _ _ _ h2,hk _ _ _ h3,v,hk _ _ _ h4,h5.sub hk⟩
theorem bP.exc {T:Nat->Prop} {w w':World} {B:Nat} {v:Value} {xs:List (Df×Value)} (h:bP w B v xs) (hE:ah T w w') (hT:∀k,T k->k<B):bP w' B v xs :=
 ⟨gV hE h.1 (λk hk ht=>by have:=(World.ownsRow.lt h.1 k hk).1;have:=hT k ht;omega),
  λx hx=>gV hE (h.2.1 x hx) (λk hk ht=>by have:=(World.ownsRow.lt (h.2.1 x hx) k hk).1;have:=hT k ht;omega),h.2.2⟩
theorem au.exc {T:Nat->Prop} {w w':World} {B:Nat} {v:Value} {ns:List Nd} (h:au w B v ns) (hE:ah T w w') (hT:∀k,v.ownBlock=some k->¬T k):au w' B v ns:=gV hE h hT
theorem mJ {L:List Df} (h:good L=true):(∀x∈L,dN x)/\L.length<=1048576:=by
 have h1:=yE h;have h2:=tK h;refine⟨λx hx=>?_,by omega⟩;obtain⟨q1,q2,q3⟩:=h1 x hx;exact⟨by omega,λn hn=>by have:=q3 n hn;omega,by omega⟩
theorem IU (w:World) (B:Nat):cu w B (.slice none 0 0) []:=⟨[],rfl,⟨by simp,.inl ⟨rfl,rfl⟩⟩,by simp,List.Pairwise.nil⟩
end Go.Proofs.YtikgblkfmpecfaaGreatDoor
