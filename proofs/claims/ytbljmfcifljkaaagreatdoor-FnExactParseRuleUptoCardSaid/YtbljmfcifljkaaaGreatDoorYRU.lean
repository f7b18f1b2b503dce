/-
  A rule, plain. Own work.
-/
import Derived.Test.YtbljmfcifljkaaaGreatDoorYA
import Derived.Test.YtbljmfcifljkaaaGreatDoorYM
import Derived.Test.YtbljmfcifljkaaaGreatDoorYC
import Derived.Test.YtbljmfcifljkaaaGreatDoorYSY
set_option linter.all false
set_option maxRecDepth 100000
set_option maxHeartbeats 8000000
namespace Go.Proofs.YtbljmfcifljkaaaGreatDoor
structure Rul where
 name:ByteArray
 left:List Nd
 right:List Nd
 deriving DecidableEq
end Go.Proofs.YtbljmfcifljkaaaGreatDoor
/-
  Rules in rows: what a world holds, the marks that a law writes into them and reads again. Own work.
-/
namespace Go.Proofs.YtbljmfcifljkaaaGreatDoor
open Go.RowKit
abbrev RuV:=Rul × Value × Value
def ruCells (x:RuV):List Value:=[.string x.1.name,x.2.1,x.2.2]
theorem ruCells_len (x:RuV):(ruCells x).length=3:=rfl
def RuAt (w:World) (d:Rul) (b o:Nat):Prop :=
 w.cell? ⟨b,o,none⟩=some (.string d.name)∧(∃ v,w.cell? ⟨b,o+1,none⟩=some v∧NdsAt w v d.left)∧∃ v,w.cell? ⟨b,o+2,none⟩=some v∧NdsAt w v d.right
def RusAt (w:World) (v:Value) (L:List Rul):Prop:=SlAt 3 v L.length fun i b o=>∃ h:i<L.length,RuAt w L[i] b o
def RuSep (x y:RuV):Prop:=Apart x.2.1 y.2.1∧Apart x.2.1 y.2.2∧Apart x.2.2 y.2.1∧Apart x.2.2 y.2.2
def RuRow (w:World) (B:Nat) (v:Value) (xs:List RuV):Prop :=
 w.ownsRow B 32 3 v xs.length (xs.flatMap ruCells)∧(∀ x ∈ xs,NdsOwn w B x.2.1 x.1.left∧NdsOwn w B x.2.2 x.1.right∧Apart x.2.1 x.2.2)∧xs.Pairwise RuSep
theorem RuAt.keep {w w':World} (hb:Below w.heap.size w w') {d:Rul} {b o:Nat} (h:RuAt w d b o):RuAt w' d b o:=by
 obtain ⟨h1,⟨v,h2,h3⟩,u,h4,h5⟩:=h
 exact ⟨cell_keep hb h1,⟨v,cell_keep hb h2,h3.keep hb⟩,u,cell_keep hb h4,h5.keep hb⟩
theorem RusAt.keep {w w':World} (hb:Below w.heap.size w w') {v:Value} {L:List Rul} (h:RusAt w v L):RusAt w' v L :=
 SlAt.mono h fun _ _ _ ⟨hi,r⟩=>⟨hi,r.keep hb⟩
theorem RuRow.at {w:World} {B:Nat} {v:Value} {xs:List RuV} (h:RuRow w B v xs):RusAt w v (xs.map Prod.fst):=by
 obtain ⟨ho,hb,_⟩:=h
 have ho':w.ownsRow B 32 3 v (xs.map Prod.fst).length (xs.flatMap ruCells):=by rw [List.length_map];exact ho
 refine owns_slat ho' _ fun i b o hi' hc=>⟨hi',?_⟩
 have hi:i<xs.length:=by simpa using hi'
 have g:∀ j,j<3 → w.cell? ⟨b,o+j,none⟩=(ruCells xs[i])[j]?:=fun j hj=>(hc j hj).trans (flat_get ruCells_len xs i j hi hj)
 rw [List.getElem_map]
 have hx:=hb _ (List.getElem_mem hi)
 exact ⟨g 0 (by omega),⟨xs[i].2.1,g 1 (by omega),hx.1.at⟩,xs[i].2.2,g 2 (by omega),hx.2.1.at⟩
theorem RuRow.keep {w w':World} {B:Nat} {v:Value} {xs:List RuV} (hb:Below w.heap.size w w') (h:RuRow w B v xs):RuRow w' B v xs :=
 ⟨owns_keep hb h.1,fun x hx=>⟨(h.2.1 x hx).1.keep hb,(h.2.1 x hx).2.1.keep hb,(h.2.1 x hx).2.2⟩,h.2.2⟩
theorem RuRow.mono {w:World} {B B':Nat} {v:Value} {xs:List RuV} (hB:B'≤B) (h:RuRow w B v xs):RuRow w B' v xs :=
 ⟨owns_mono hB h.1,fun x hx=>⟨(h.2.1 x hx).1.mono hB,(h.2.1 x hx).2.1.mono hB,(h.2.1 x hx).2.2⟩,h.2.2⟩
theorem RuRow.shape {w:World} {B:Nat} {v:Value} {xs:List RuV} (h:RuRow w B v xs):∃ a cap,v=.slice a xs.length cap:=by
 rcases h.1.2 with ⟨hv,he⟩|⟨g,cap,cur,hv,_⟩
 ·exact ⟨none,0,by rw [hv,he]⟩
 ·exact ⟨_,_,hv⟩
theorem Apart.symm {a b:Value} (h:Apart a b):Apart b a:=fun k hb ha=>h k ha hb
end Go.Proofs.YtbljmfcifljkaaaGreatDoor
/-
  Rows of rules that grow by append. Own work.
-/
namespace Go.Proofs.YtbljmfcifljkaaaGreatDoor
open Go.RowKit
set_option maxRecDepth 100000
set_option maxHeartbeats 4000000
def RuIn (w:World) (B:Nat) (ys:List RuV):Prop:=(∀ y ∈ ys,NdsOwn w B y.2.1 y.1.left∧NdsOwn w B y.2.2 y.1.right∧Apart y.2.1 y.2.2)∧ys.Pairwise RuSep
theorem RuIn.keep {w w':World} {B:Nat} {ys:List RuV} (h:RuIn w B ys) (hb:Below w.heap.size w w'):RuIn w' B ys :=
 ⟨fun y hy=>⟨(h.1 y hy).1.keep hb,(h.1 y hy).2.1.keep hb,(h.1 y hy).2.2⟩,h.2⟩
theorem RuRow.app {w w':World} {B:Nat} {v v':Value} {xs ys:List RuV} (h:RuRow w B v xs) (hy:RuIn w B ys) (hxy:∀ x ∈ xs,∀ y ∈ ys,RuSep x y)
  (hown:w'.ownsRow B 32 3 v' (xs.length+ys.length) (xs.flatMap ruCells ++ ys.flatMap ruCells)) (hg:w.grownBy w' v.ownBlock):RuRow w' B v' (xs ++ ys):=by
 have ne:∀ (u:Value) ns,NdsOwn w B u ns → ∀ k,u.ownBlock=some k → v.ownBlock ≠ some k:=fun u ns hu k hk=>owns_ne hu h.1 (by decide) k hk
 have mv:∀ (u:Value) ns,NdsOwn w B u ns → NdsOwn w' B u ns:=fun u ns hu=>nds_grown hu hg (ne u ns hu)
 refine ⟨?_,?_,?_⟩
 ·rw [List.length_append,List.flatMap_append];exact hown
 ·intro x hx
  have hxo:NdsOwn w B x.2.1 x.1.left∧NdsOwn w B x.2.2 x.1.right∧Apart x.2.1 x.2.2:=by
   rcases List.mem_append.1 hx with hx|hx
   ·exact h.2.1 x hx
   ·exact hy.1 x hx
  exact ⟨mv _ _ hxo.1,mv _ _ hxo.2.1,hxo.2.2⟩
 ·exact List.pairwise_append.2 ⟨h.2.2,hy.2,hxy⟩
theorem RuIn.part {w:World} {B:Nat} {ys:List RuV} (h:RuIn w B ys) (i m:Nat):RuIn w B ((ys.drop i).take m):=by
 have hs:((ys.drop i).take m).Sublist ys:=(List.take_sublist _ _).trans (List.drop_sublist _ _)
 exact ⟨fun y hy=>h.1 y (hs.subset hy),h.2.sublist hs⟩
end Go.Proofs.YtbljmfcifljkaaaGreatDoor
