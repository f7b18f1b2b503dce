/-
  strings.Replacer: the table of texts is made. Own work.
-/
import Derived.Test.YtbljmfcifljkaaaGreatDoorYSY
import Derived.Lib.AppendIntMem
import Derived.Lib.ConvBytes
import Derived.Test.YtbljmfcifljkaaaGreatDoorYT
import Derived.Laws.CopyRow
import Derived.Test.YtbljmfcifljkaaaGreatDoorYRQ
set_option linter.all false
set_option maxRecDepth 100000
set_option maxHeartbeats 8000000
namespace Go.Proofs.YtbljmfcifljkaaaGreatDoor
open Go.RowKit
set_option maxRecDepth 100000
set_option maxHeartbeats 4000000
theorem owns_blk {w w':World} {B e sz:Nat} {v:Value} {n:Nat} {xs:List Value} (h:w.ownsRow B e sz v n xs) (hb:∀ k,v.ownBlock=some k → w'.heap[k]?=w.heap[k]?):w'.ownsRow B e sz v n xs:=by
 refine ⟨h.1,?_⟩
 rcases h.2 with h0|⟨g,cap,cur,rfl,h1,h2,h3⟩
 ·exact .inl h0
 ·exact .inr ⟨g,cap,cur,rfl,h1,(hb g rfl).trans h2,h3⟩
def lxL (xs:List ByteArray):List (UInt8 × ByteArray):=(repK.map UInt8.ofNat).zip xs
def dN:List (UInt8 × ByteArray) → UInt8 → Option ByteArray
 | [],_=>none
 | (q,x) :: r,c=>if c=q then some x else dN r c
def TxV (w:World) (B tb gt:Nat) (v:Value):Option ByteArray → Prop
 | none=>v=.slice none 0 0
 | some t=>∃ g cap,v=.slice (some ⟨g,0,none⟩) t.size cap∧g ≠ tb∧g ≠ gt∧(B≤g∧∃ cs fr,w.heap[g]?=some (.cells cs 5 fr))∧∀ j (h:j<t.size),w.cell? ⟨g,j,none⟩=some (.int .u8 (t[j].toNat:Int))
def StrTab (w:World) (B tb gt:Nat) (L:List (UInt8 × ByteArray)):Prop:=∃ f,TabAt w tb 345 257 f∧B≤tb∧B≤gt∧tb ≠ gt ∧
 f 256=.slice (some ⟨gt,0,none⟩) L.length 5∧w.ownsRow B 9 1 (f 256) L.length ((L.map Prod.fst).reverse.map fun c=>Value.string ⟨#[c]⟩)∧∀ c:UInt8,TxV w B tb gt (f c.toNat) (dN L c)
theorem TxV.keep {w w':World} {B tb gt:Nat} {v:Value} {o:Option ByteArray} (h:TxV w B tb gt v o) (hs:w.heap.size≤w'.heap.size) (hb:∀ k,k<w.heap.size → k ≠ tb → k ≠ gt → w'.heap[k]?=w.heap[k]?):TxV w' B tb gt v o:=by
 cases o with
 | none=>exact h
 | some t =>
  obtain ⟨g,cap,rfl,h1,h2,⟨h5,cs,fr,h3⟩,h4⟩:=h
  have hlt:=(Array.getElem?_eq_some_iff.1 h3).1
  exact ⟨g,cap,rfl,h1,h2,⟨h5,cs,fr,(hb g hlt h1 h2).trans h3⟩,fun j hj=>(World.cell?_of_block (hb g hlt h1 h2)).trans (h4 j hj)⟩
end Go.Proofs.YtbljmfcifljkaaaGreatDoor
/-
  strings.Replacer: bytes are replaced by texts. Own work; printed by wip/parR4.py.
-/
namespace Go.Proofs.YtbljmfcifljkaaaGreatDoor
open Go.RowKit
set_option maxRecDepth 100000
set_option maxHeartbeats 4000000
theorem StrTab.keep {w w':World} {B tb gt:Nat} {L:List (UInt8 × ByteArray)} (h:StrTab w B tb gt L) (hb:Below w.heap.size w w'):StrTab w' B tb gt L:=by
 obtain ⟨f,h1,h2,h3,h4,h5,h6,h7⟩:=h
 exact ⟨f,h1.keep hb,h2,h3,h4,h5,owns_keep hb h6,fun c=>(h7 c).keep hb.size fun k hk _ _=>hb.block k hk⟩
def u8V (c:UInt8):Value:=.int .u8 (c.toNat:Int)
def BufS (wr:World) (gb N:Nat) (pre:List UInt8):Prop:=∃ rest:List Value,wr.heap[gb]?=some (.cells (pre.map u8V ++ rest).toArray 5 (0,0))∧pre.length+rest.length=N
theorem BufS.keep {w w':World} {gb N:Nat} {pre:List UInt8} (h:BufS w gb N pre) (hb:Below w.heap.size w w'):BufS w' gb N pre:=by
 obtain ⟨rest,h1,h2⟩:=h
 exact ⟨rest,(hb.block gb (Array.getElem?_eq_some_iff.1 h1).1).trans h1,h2⟩
theorem BufS.lt {w:World} {gb N:Nat} {pre:List UInt8} (h:BufS w gb N pre):gb<w.heap.size:=by
 obtain ⟨rest,h1,h2⟩:=h
 exact (Array.getElem?_eq_some_iff.1 h1).1
theorem BufS.cell {w:World} {gb N:Nat} {pre:List UInt8} (h:BufS w gb N pre) (j:Nat) (hj:j<pre.length):w.cell? ⟨gb,j,none⟩=some (.int .u8 (pre[j].toNat:Int)):=by
 obtain ⟨rest,h1,h2⟩:=h
 rw [cell_of_row _ _ j _ _ (0,0) h1]
 simp [hj,List.getElem?_append_left,u8V]
theorem BufS.froz {w:World} {gb N:Nat} {pre:List UInt8} (h:BufS w gb N pre) (j:Nat):w.frozen? ⟨gb,j,none⟩=false:=by
 obtain ⟨rest,h1,h2⟩:=h
 exact frozen_of_row w gb j _ _ h1
theorem BufS.put {w:World} {gb N:Nat} {pre:List UInt8} (h:BufS w gb N pre) (hn:pre.length<N) (c:UInt8):BufS (w.setCell ⟨gb,pre.length,none⟩ (.int .u8 (c.toNat:Int))) gb N (pre ++ [c]):=by
 obtain ⟨rest,h1,h2⟩:=h
 match rest,h1,h2 with
 | [],h1,h2=>simp at h2;omega
 | y :: r,h1,h2 =>
  refine ⟨r,?_,by simp at h2 ⊢;omega⟩
  unfold World.setCell
  simp only [Array.getElem?_modify,if_pos]
  rw [h1]
  simp only [Option.map_some,Option.some.injEq,Obj.cells.injEq,and_true]
  apply Array.toList_inj.1
  simp [u8V]
theorem BufS.copy {w:World} {gb N:Nat} {pre:List UInt8} (h:BufS w gb N pre) (l:List UInt8) (hn:pre.length+l.length≤N) :
  ∃ cur:Array Value,w.heap[gb]?=some (.cells cur 5 (0,0))∧pre.length+(l.map u8V).length≤cur.size ∧
   BufS (w.setRow gb (cur.toList.take pre.length ++ l.map u8V ++ cur.toList.drop (pre.length+(l.map u8V).length)).toArray) gb N (pre ++ l):=by
 obtain ⟨rest,h1,h2⟩:=h
 refine ⟨_,h1,by simp;omega,rest.drop l.length,?_,by simp;omega⟩
 rw [setRow_heap w gb _ _ _ _ h1]
 simp only [Option.some.injEq,Obj.cells.injEq,and_true]
 apply Array.toList_inj.1
 simp only [List.length_map]
 have e1:(pre.map u8V ++ rest).take pre.length=pre.map u8V:=List.take_left' (by simp)
 have e2:(pre.map u8V ++ rest).drop (pre.length+l.length)=rest.drop l.length:=by
  rw [List.drop_append]
  simp [Nat.add_sub_cancel_left]
 simp only [List.map_append]
 rw [e1,e2]
end Go.Proofs.YtbljmfcifljkaaaGreatDoor
/-
  strings.Replacer: Replace where some letter has a text of two bytes. Own work.
-/
namespace Go.Proofs.YtbljmfcifljkaaaGreatDoor
open Go.RowKit
set_option maxRecDepth 100000
set_option maxHeartbeats 4000000
def StrP (L:List (UInt8 × ByteArray)) (b:Nat) (w:World) (r:Value):Prop:=∃ B tb gt,r=.iface 346 (.pointer (some ⟨tb,0,none⟩))∧b<B∧StrTab w B tb gt L
theorem StrP.set {L:List (UInt8 × ByteArray)} {b:Nat}:∀ (w w':World) (r:Value) (a:Addr) (u:Value),StrP L b w r → a.block=b → w'=w.setCell a u → StrP L b w' r:=by
 rintro w w' r a u ⟨B,tb,gt,h1,h2,f,k1,k2,k3,k4,k5,k6,k7⟩ ha rfl
 have hb:∀ k,k ≠ b → (w.setCell a u).heap[k]?=w.heap[k]?:=fun k hk=>Below.heap_setCell _ _ _ _ (by rw [ha];exact hk)
 refine ⟨B,tb,gt,h1,h2,f,(hb tb (by omega)).trans k1,k2,k3,k4,k5,owns_blk k6 (fun k hk=>by rw [k5] at hk;simp [Value.ownBlock] at hk;subst hk;exact hb _ (by omega)),fun c=>?_⟩
 have h9:=k7 c
 cases hd:dN L c with
 | none=>rw [hd] at h9;exact h9
 | some t =>
  rw [hd] at h9
  obtain ⟨g,cap,e,q1,q2,⟨q3,cs,fr,q4⟩,q5⟩:=h9
  exact ⟨g,cap,e,q1,q2,⟨q3,cs,fr,(hb g (by omega)).trans q4⟩,fun j hj=>(World.cell?_of_block (hb g (by omega))).trans (q5 j hj)⟩
theorem StrP.keep {L:List (UInt8 × ByteArray)} {b:Nat} {w w':World} {r:Value} (h:StrP L b w r) (hb:Below w.heap.size w w'):StrP L b w' r:=by
 obtain ⟨B,tb,gt,h1,h2,h3⟩:=h
 exact ⟨B,tb,gt,h1,h2,h3.keep hb⟩
end Go.Proofs.YtbljmfcifljkaaaGreatDoor
