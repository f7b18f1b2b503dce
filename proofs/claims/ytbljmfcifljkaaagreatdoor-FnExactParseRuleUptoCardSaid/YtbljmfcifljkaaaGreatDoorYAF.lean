/-
  A region that draws its order, many calls in it: each call is shown to wait for the one ahead of it. Own work; printed by wip/parA4.py out of Acts.
-/
import Derived.Test.YtbljmfcifljkaaaGreatDoorYB
import Derived.Test.YtbljmfcifljkaaaGreatDoorYTM
import Derived.Test.YtbljmfcifljkaaaGreatDoorYRU
import Derived.Test.YtbljmfcifljkaaaGreatDoorYMI
import Derived.Test.YtbljmfcifljkaaaGreatDoorYC
set_option linter.all false
set_option maxRecDepth 100000
set_option maxHeartbeats 8000000
namespace Go.Proofs.YtbljmfcifljkaaaGreatDoor
open Go.RowKit
set_option maxRecDepth 100000
section
variable {P:Program} {ops:Array Oper} {C:World → Prop} {N:Nat} {Q:Exit → Act → World → Prop}
inductive NeedP (ops:Array Oper):Nat → Nat → Prop
 | one {j i:Nat}:Region.waitsFor .any ops j i=true → NeedP ops j i
 | more {j p i:Nat}:Region.waitsFor .any ops j p=true → NeedP ops p i → NeedP ops j i
theorem NeedP.trans {ops:Array Oper} {a b c:Nat} (h:NeedP ops a b) (k:NeedP ops b c):NeedP ops a c:=by
 induction h with
 | one h=>exact .more h k
 | more h _ ih=>exact .more h (ih k)
end
end Go.Proofs.YtbljmfcifljkaaaGreatDoor
/-
  The reference's small terms, as trees; rows of rules whose terms are shared. Own work.
-/
namespace Go.Proofs.YtbljmfcifljkaaaGreatDoor
open Go.RowKit
set_option maxRecDepth 100000
set_option maxHeartbeats 4000000
def AllO (w:World) (B:Nat) (L:List (Value × Tr)):Prop:=∀ x ∈ L,NdsOwn w B x.1 x.2.nodes
theorem AllO.nil (w:World) (B:Nat):AllO w B []:=by intro x hx;simp at hx
theorem AllO.cons {w:World} {B:Nat} {v:Value} {T:Tr} {L:List (Value × Tr)} (h:NdsOwn w B v T.nodes) (H:AllO w B L):AllO w B ((v,T) :: L):=by
 intro x hx
 rcases List.mem_cons.1 hx with rfl|hx
 ·exact h
 ·exact H x hx
theorem AllO.keep {w w':World} {B:Nat} {L:List (Value × Tr)} (hb:Below w.heap.size w w') (H:AllO w B L):AllO w' B L:=fun x hx=>(H x hx).keep hb
def RuS (w:World) (B:Nat) (v:Value) (xs:List RuV):Prop:=w.ownsRow B 32 3 v xs.length (xs.flatMap ruCells)∧∀ x ∈ xs,NdsOwn w B x.2.1 x.1.left∧NdsOwn w B x.2.2 x.1.right
theorem RuS.keep {w w':World} {B:Nat} {v:Value} {xs:List RuV} (hb:Below w.heap.size w w') (h:RuS w B v xs):RuS w' B v xs:=⟨owns_keep hb h.1,fun x hx=>⟨(h.2 x hx).1.keep hb,(h.2 x hx).2.keep hb⟩⟩
theorem RuS.mono {w:World} {B B':Nat} {v:Value} {xs:List RuV} (hB:B'≤B) (h:RuS w B v xs):RuS w B' v xs:=⟨owns_mono hB h.1,fun x hx=>⟨(h.2 x hx).1.mono hB,(h.2 x hx).2.mono hB⟩⟩
theorem RuS.at {w:World} {B:Nat} {v:Value} {xs:List RuV} (h:RuS w B v xs):RusAt w v (xs.map Prod.fst):=by
 obtain ⟨ho,hb⟩:=h
 have ho':w.ownsRow B 32 3 v (xs.map Prod.fst).length (xs.flatMap ruCells):=by rw [List.length_map];exact ho
 refine owns_slat ho' _ fun i b o hi' hc=>⟨hi',?_⟩
 have hi:i<xs.length:=by simpa using hi'
 have g:∀ j,j<3 → w.cell? ⟨b,o+j,none⟩=(ruCells xs[i])[j]?:=fun j hj=>(hc j hj).trans (flat_get ruCells_len xs i j hi hj)
 rw [List.getElem_map]
 have hx:=hb _ (List.getElem_mem hi)
 exact ⟨g 0 (by omega),⟨xs[i].2.1,g 1 (by omega),hx.1.at⟩,xs[i].2.2,g 2 (by omega),hx.2.at⟩
theorem RuS.shape {w:World} {B:Nat} {v:Value} {xs:List RuV} (h:RuS w B v xs):∃ a cap,v=.slice a xs.length cap:=by
 rcases h.1.2 with ⟨hv,he⟩|⟨g,cap,cur,hv,_⟩
 ·exact ⟨none,0,by rw [hv,he]⟩
 ·exact ⟨_,_,hv⟩
end Go.Proofs.YtbljmfcifljkaaaGreatDoor
/-
  Rows of rules whose terms are shared: what a function that makes one hands back, and appends to it in a drawn region. Own work.
-/
namespace Go.Proofs.YtbljmfcifljkaaaGreatDoor
open Go.RowKit
set_option maxRecDepth 100000
set_option maxHeartbeats 4000000
def RuAllO (w:World) (B:Nat) (xs:List RuV):Prop:=∀ x ∈ xs,NdsOwn w B x.2.1 x.1.left∧NdsOwn w B x.2.2 x.1.right
theorem RuAllO.nil (w:World) (B:Nat):RuAllO w B []:=by intro x hx;simp at hx
theorem RuAllO.keep {w w':World} {B:Nat} {xs:List RuV} (hb:Below w.heap.size w w') (H:RuAllO w B xs):RuAllO w' B xs:=fun x hx=>⟨(H x hx).1.keep hb,(H x hx).2.keep hb⟩
theorem RuAllO.mono {w:World} {B B':Nat} {xs:List RuV} (hB:B'≤B) (H:RuAllO w B xs):RuAllO w B' xs:=fun x hx=>⟨(H x hx).1.mono hB,(H x hx).2.mono hB⟩
theorem RuS.app {w w':World} {B:Nat} {v v':Value} {xs ys:List RuV} (h:RuS w B v xs) (hy:RuAllO w B ys)
  (hown:w'.ownsRow B 32 3 v' (xs.length+ys.length) (xs.flatMap ruCells ++ ys.flatMap ruCells)) (hg:w.grownBy w' v.ownBlock):RuS w' B v' (xs ++ ys):=by
 have ne:∀ (u:Value) ns,NdsOwn w B u ns → ∀ k,u.ownBlock=some k → v.ownBlock ≠ some k:=fun u ns hu k hk=>owns_ne hu h.1 (by decide) k hk
 have mv:∀ (u:Value) ns,NdsOwn w B u ns → NdsOwn w' B u ns:=fun u ns hu=>nds_grown hu hg (ne u ns hu)
 refine ⟨?_,?_⟩
 ·rw [List.length_append,List.flatMap_append];exact hown
 ·intro x hx
  have hxo:NdsOwn w B x.2.1 x.1.left∧NdsOwn w B x.2.2 x.1.right:=by
   rcases List.mem_append.1 hx with hx|hx
   ·exact h.2 x hx
   ·exact hy x hx
  exact ⟨mv _ _ hxo.1,mv _ _ hxo.2⟩
end Go.Proofs.YtbljmfcifljkaaaGreatDoor
