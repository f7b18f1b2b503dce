/-
  The program's axioms: the first loop. Own work.
-/
import Derived.Test.YtbljmfcifljkaaaGreatDoorYMI
import Derived.Test.YtbljmfcifljkaaaGreatDoorYRU
import Derived.Test.YtbljmfcifljkaaaGreatDoorYRpl9
import Derived.Test.YtbljmfcifljkaaaGreatDoorYAX
import Derived.Test.YtbljmfcifljkaaaGreatDoorYFL
import Derived.Test.YtbljmfcifljkaaaGreatDoorYC
set_option linter.all false
set_option maxRecDepth 100000
set_option maxHeartbeats 8000000
namespace Go.Proofs.YtbljmfcifljkaaaGreatDoor
open Go.RowKit
set_option maxRecDepth 100000
set_option maxHeartbeats 4000000
theorem nds_exc {w w':World} {B b:Nat} {v:Value} {ns:List Nd} (h:NdsOwn w B v ns) (hE:Exc (fun k=>k=b) w w') (hb:b<B):NdsOwn w' B v ns :=
 owns_exc hE h (fun k hk e=>by have:=(World.ownsRow.lt h k hk).1;omega)
theorem RuIn.exc {w w':World} {B b:Nat} {ys:List RuV} (h:RuIn w B ys) (hE:Exc (fun k=>k=b) w w') (hb:b<B):RuIn w' B ys :=
 ⟨fun y hy=>⟨nds_exc (h.1 y hy).1 hE hb,nds_exc (h.1 y hy).2.1 hE hb,(h.1 y hy).2.2⟩,h.2⟩
theorem RuRow.exc {w w':World} {B b:Nat} {v:Value} {ys:List RuV} (h:RuRow w B v ys) (hE:Exc (fun k=>k=b) w w') (hb:b<B):RuRow w' B v ys :=
 ⟨owns_exc hE h.1 (fun k hk e=>by have:=(World.ownsRow.lt h.1 k hk).1;omega),RuIn.exc h.2 hE hb⟩
theorem cell_exc {w w':World} {b g j:Nat} {u:Value} (hE:Exc (fun k=>k=b) w w') (h:w.cell? ⟨g,j,none⟩=some u) (hg:¬ g=b):w'.cell? ⟨g,j,none⟩=some u :=
 (hE.cell.1 g j (cell_lt h) hg).trans h
theorem TxAt.exc {w w':World} {b g:Nat} (h:TxAt w g) (hE:Exc (fun k=>k=b) w w') (hg:¬ g=b):TxAt w' g:=fun i hi =>
 ⟨cell_exc hE (h i hi).1 hg,cell_exc hE (h i hi).2.1 hg,cell_exc hE (h i hi).2.2 hg⟩
theorem TxAt.lt {w:World} {g:Nat} (h:TxAt w g):g<w.heap.size:=cell_lt (h 0 (by omega)).1
structure AxT (wr w2:World) (b n:Nat) (xs:List RuV) (v:Value) (ys:List RuV):Prop where
 row:RuRow w2 (b+1) v ys
 tag:∀ y ∈ ys,y ∈ xs.take n∨(NdsOwn w2 wr.heap.size y.2.1 y.1.left∧NdsOwn w2 wr.heap.size y.2.2 y.1.right)
 bel:Below wr.heap.size wr w2
 blk:∀ k,v.ownBlock=some k → wr.heap.size≤k
theorem RuSep.symm {x y:RuV} (h:RuSep x y):RuSep y x:=⟨h.1.symm,h.2.2.1.symm,h.2.1.symm,h.2.2.2.symm⟩
theorem AxT.keep {wr w2 w3:World} {b n:Nat} {xs ys:List RuV} {v:Value} (h:AxT wr w2 b n xs v ys) (hb:Below w2.heap.size w2 w3):AxT wr w3 b n xs v ys :=
 ⟨h.row.keep hb,fun y hy=>(h.tag y hy).imp id fun h=>⟨h.1.keep hb,h.2.keep hb⟩,h.bel.trans (hb.mono h.bel.size),h.blk⟩
theorem nds_row_ne {w:World} {B B':Nat} {v u:Value} {ys:List RuV} {ns:List Nd} (h:RuRow w B v ys) (hu:NdsOwn w B' u ns):∀ k,u.ownBlock=some k → v.ownBlock ≠ some k:=fun k hk=>owns_ne hu h.1 (by decide) k hk
theorem AxT.put {wr w2 w3:World} {b n m:Nat} {xs ys zs:List RuV} {v v':Value} (h:AxT wr w2 b n xs v ys) (hn:n≤m) (hrow:RuRow w3 (b+1) v' (ys ++ zs)) (hg:w2.grownBy w3 v.ownBlock) (hv:v'.ownBlock=v.ownBlock∨v'.ownBlock=some w2.heap.size)
  (hz:∀ z ∈ zs,z ∈ xs.take m∨(NdsOwn w2 wr.heap.size z.2.1 z.1.left∧NdsOwn w2 wr.heap.size z.2.2 z.1.right)):AxT wr w3 b m xs v' (ys ++ zs):=by
 have mv:∀ (u:Value) ns,NdsOwn w2 wr.heap.size u ns → NdsOwn w3 wr.heap.size u ns:=fun u ns hu=>nds_grown hu hg (nds_row_ne h.row hu)
 refine ⟨hrow,fun y hy=>?_,h.bel.grown hg h.bel.size h.blk,?_⟩
 ·rcases List.mem_append.1 hy with hy|hy
  ·rcases h.tag y hy with h1|h1
   ·exact .inl ((List.take_subset_take_left xs hn) h1)
   ·exact .inr ⟨mv _ _ h1.1,mv _ _ h1.2⟩
  ·exact (hz y hy).imp id fun h1=>⟨mv _ _ h1.1,mv _ _ h1.2⟩
 ·intro k hk
  rcases hv with e|e
  ·exact h.blk k (by rw [← e];exact hk)
  ·rw [e] at hk;cases hk;exact h.bel.size
end Go.Proofs.YtbljmfcifljkaaaGreatDoor
/-
  The program's axioms, walked. Own work.
-/
namespace Go.Proofs.YtbljmfcifljkaaaGreatDoor
open Go.RowKit
set_option maxRecDepth 100000
set_option maxHeartbeats 4000000
end Go.Proofs.YtbljmfcifljkaaaGreatDoor
