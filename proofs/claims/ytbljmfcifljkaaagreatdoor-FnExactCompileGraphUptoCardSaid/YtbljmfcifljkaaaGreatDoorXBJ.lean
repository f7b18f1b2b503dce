/-
  Sessions in the laws: size, copy, comparison. Own work.
-/
import Derived.Test.YtbljmfcifljkaaaGreatDoorXBI
import Derived.Test.YtbljmfcifljkaaaGreatDoorXAD
import Derived.Test.YtbljmfcifljkaaaGreatDoorXAI
import Derived.Test.YtbljmfcifljkaaaGreatDoorXAJ
import Derived.Test.YtbljmfcifljkaaaGreatDoorXAC
import Derived.Lib.AppendIntMem
import Derived.Lib.ConvBytes
import Derived.Laws.CopyRow
import Derived.Test.YtbljmfcifljkaaaGreatDoorXAB
set_option linter.all false
set_option maxRecDepth 100000
set_option maxHeartbeats 8000000
namespace Go.Proofs.YtbljmfcifljkaaaGreatDoor
open Go.RowKit
set_option maxRecDepth 100000
set_option maxHeartbeats 4000000
theorem SnR.slices {w:World} {vp ne ni no vf ge gi go:Value} {s:SnI} (h:SnR w vp ne ni no vf ge gi go s) :
  (∃ a c,vp=.slice a s.past.length c)∧((∃ a c,ne=.slice a s.now.edges.length c)∧(∃ a c,ni=.slice a s.now.ins.length c)∧∃ a c,no=.slice a s.now.outs.length c) ∧
   (∃ a c,vf=.slice a s.future.length c)∧(∃ a c,ge=.slice a s.goal.edges.length c)∧(∃ a c,gi=.slice a s.goal.ins.length c)∧∃ a c,go=.slice a s.goal.outs.length c :=
 ⟨h.past.slice,h.now.slices,h.future.slice,h.goal.slices⟩
end Go.Proofs.YtbljmfcifljkaaaGreatDoor
/-
  All graphs of a session in one row, the program's. Own work.
-/
namespace Go.Proofs.YtbljmfcifljkaaaGreatDoor
open Go.RowKit
set_option maxRecDepth 100000
set_option maxHeartbeats 4000000
abbrev GrV:=GrI × Value × Value × Value
def GrsVals (w:World) (v:Value) (xs:List GrV):Prop :=
 SlAt 4 v xs.length (fun i b o=>∃ h:i<xs.length,∀ j,j<4 → w.cell? ⟨b,o+j,none⟩=(grCells xs[i])[j]?)∧∀ x ∈ xs,GrR w x.2.1 x.2.2.1 x.2.2.2 x.1
theorem GrsVals.src {w:World} {v:Value} {xs:List GrV} (h:GrsVals w v xs):SrcAt w 4 v xs.length (xs.flatMap grCells) :=
 slat_src (by omega) grCells_len h.1 fun i b o hi ⟨_,h⟩=>h
theorem GrsVals.keep {w w':World} (hb:Below w.heap.size w w') {v:Value} {xs:List GrV} (h:GrsVals w v xs):GrsVals w' v xs :=
 ⟨SlAt.mono h.1 fun i b o ⟨hi,hr⟩=>⟨hi,fun j hj=>by
  have h1:=hr j hj
  have h2:∃ u,(grCells xs[i])[j]?=some u:=⟨_,List.getElem?_eq_getElem (by rw [grCells_len];exact hj)⟩
  obtain ⟨u,hu⟩:=h2
  rw [hu] at h1 ⊢
  exact cell_keep hb h1⟩,fun x hx=>(h.2 x hx).keep hb⟩
structure GsR (w0 w:World) (v:Value) (xs:List GrV):Prop where
 row:w.ownsRow w0.heap.size 53 4 v xs.length (xs.flatMap grCells)
 els:∀ x ∈ xs,GrR w0 x.2.1 x.2.2.1 x.2.2.2 x.1
theorem GsR.keep {w0 w w':World} {v:Value} {xs:List GrV} (hb:Below w.heap.size w w') (h:GsR w0 w v xs):GsR w0 w' v xs:=⟨owns_keep hb h.row,h.els⟩
theorem GsR.at {w0 w:World} {v:Value} {xs:List GrV} (h:GsR w0 w v xs) (hb:Below w0.heap.size w0 w):GrsAt w v (xs.map Prod.fst):=by
 have ho:w.ownsRow w0.heap.size 53 4 v (xs.map Prod.fst).length (xs.flatMap grCells):=by rw [List.length_map];exact h.row
 refine owns_slat ho _ fun i b o hi' hc=>⟨hi',?_⟩
 have hi:i<xs.length:=by simpa using hi'
 have g:∀ j,j<4 → w.cell? ⟨b,o+j,none⟩=(grCells xs[i])[j]?:=fun j hj=>(hc j hj).trans (flat_get grCells_len xs i j hi hj)
 rw [List.getElem_map]
 exact ⟨g 0 (by omega),xs[i].2.1,xs[i].2.2.1,xs[i].2.2.2,g 1 (by omega),g 2 (by omega),g 3 (by omega),(h.els _ (List.getElem_mem hi)).keep hb⟩
end Go.Proofs.YtbljmfcifljkaaaGreatDoor
/-
  All graphs of a session, the program's graphs. Own work.
-/
namespace Go.Proofs.YtbljmfcifljkaaaGreatDoor
open Go.RowKit
set_option maxRecDepth 100000
set_option maxHeartbeats 4000000
def SnI.graphs (s:SnI):List GrI:=s.now :: s.goal :: (s.past ++ s.future)
end Go.Proofs.YtbljmfcifljkaaaGreatDoor
/-
  A rule's mirror image, its name with an m ahead. Own work.
-/
namespace Go.Proofs.YtbljmfcifljkaaaGreatDoor
open Go.RowKit
set_option maxRecDepth 100000
set_option maxHeartbeats 4000000
end Go.Proofs.YtbljmfcifljkaaaGreatDoor
/-
  strings.Replacer: the table of bytes is made. Own work.
-/
namespace Go.Proofs.YtbljmfcifljkaaaGreatDoor
open Go.RowKit
set_option maxRecDepth 100000
set_option maxHeartbeats 4000000
theorem TabAt.congr {w:World} {tb:Nat} {t:TypeId} {n:Nat} {f g:Nat → Value} (h:TabAt w tb t n f) (hf:∀ j,j<n → f j=g j):TabAt w tb t n g:=by
 unfold TabAt at *
 rw [h]
 simp only [Option.some.injEq,Obj.cells.injEq,and_true]
 apply Array.ext_getElem?
 intro i
 by_cases hi:i<n
 ·rw [tabV_get n f i hi,tabV_get n g i hi,hf i hi]
 ·rw [Array.getElem?_eq_none (by simp [tabV_size];omega),Array.getElem?_eq_none (by simp [tabV_size];omega)]
end Go.Proofs.YtbljmfcifljkaaaGreatDoor
/-
  strings.Replacer: the table of texts is made. Own work.
-/
namespace Go.Proofs.YtbljmfcifljkaaaGreatDoor
open Go.RowKit
set_option maxRecDepth 100000
set_option maxHeartbeats 4000000
theorem owns_blk {w w':World} {B e sz:Nat} {v:Value} {n:Nat} {xs:List Value} (h:w.ownsRow B e sz v n xs) (hb:∀ k,v.ownBlock=some k → w'.heap[k]?=w.heap[k]?):w'.ownsRow B e sz v n xs:=by
 refine ⟨h.1,?_⟩
 rcases h.2 with h0|⟨g,cap,cur,rfl,h1,h2,h3⟩
 ·exact .inl h0
 ·exact .inr ⟨g,cap,cur,rfl,h1,(hb g rfl).trans h2,h3⟩
def lxL (xs:List ByteArray):List (UInt8 × ByteArray):=(repK.map UInt8.ofNat).zip xs
def dN:List (UInt8 × ByteArray) → UInt8 → Option ByteArray
 | [],_=>none
 | (q,x) :: r,c=>if c=q then some x else dN r c
def TxV (w:World) (B tb gt:Nat) (v:Value):Option ByteArray → Prop
 | none=>v=.slice none 0 0
 | some t=>∃ g cap,v=.slice (some ⟨g,0,none⟩) t.size cap∧g ≠ tb∧g ≠ gt∧(B≤g∧∃ cs fr,w.heap[g]?=some (.cells cs 5 fr))∧∀ j (h:j<t.size),w.cell? ⟨g,j,none⟩=some (.int .u8 (t[j].toNat:Int))
def StrTab (w:World) (B tb gt:Nat) (L:List (UInt8 × ByteArray)):Prop:=∃ f,TabAt w tb 345 257 f∧B≤tb∧B≤gt∧tb ≠ gt ∧
 f 256=.slice (some ⟨gt,0,none⟩) L.length 5∧w.ownsRow B 9 1 (f 256) L.length ((L.map Prod.fst).reverse.map fun c=>Value.string ⟨#[c]⟩)∧∀ c:UInt8,TxV w B tb gt (f c.toNat) (dN L c)
theorem TxV.keep {w w':World} {B tb gt:Nat} {v:Value} {o:Option ByteArray} (h:TxV w B tb gt v o) (hs:w.heap.size≤w'.heap.size) (hb:∀ k,k<w.heap.size → k ≠ tb → k ≠ gt → w'.heap[k]?=w.heap[k]?):TxV w' B tb gt v o:=by
 cases o with
 | none=>exact h
 | some t =>
  obtain ⟨g,cap,rfl,h1,h2,⟨h5,cs,fr,h3⟩,h4⟩:=h
  have hlt:=(Array.getElem?_eq_some_iff.1 h3).1
  exact ⟨g,cap,rfl,h1,h2,⟨h5,cs,fr,(hb g hlt h1 h2).trans h3⟩,fun j hj=>(World.cell?_of_block (hb g hlt h1 h2)).trans (h4 j hj)⟩
end Go.Proofs.YtbljmfcifljkaaaGreatDoor
/-
  Texts for bytes: lengths, counted two ways. Plain. Own work.
-/
namespace Go.Proofs.YtbljmfcifljkaaaGreatDoor
end Go.Proofs.YtbljmfcifljkaaaGreatDoor
/-
  strings.Replacer: bytes are replaced by texts. Own work; printed by wip/parR4.py.
-/
namespace Go.Proofs.YtbljmfcifljkaaaGreatDoor
open Go.RowKit
set_option maxRecDepth 100000
set_option maxHeartbeats 4000000
theorem StrTab.keep {w w':World} {B tb gt:Nat} {L:List (UInt8 × ByteArray)} (h:StrTab w B tb gt L) (hb:Below w.heap.size w w'):StrTab w' B tb gt L:=by
 obtain ⟨f,h1,h2,h3,h4,h5,h6,h7⟩:=h
 exact ⟨f,h1.keep hb,h2,h3,h4,h5,owns_keep hb h6,fun c=>(h7 c).keep hb.size fun k hk _ _=>hb.block k hk⟩
def u8V (c:UInt8):Value:=.int .u8 (c.toNat:Int)
def BufS (wr:World) (gb N:Nat) (pre:List UInt8):Prop:=∃ rest:List Value,wr.heap[gb]?=some (.cells (pre.map u8V ++ rest).toArray 5 (0,0))∧pre.length+rest.length=N
theorem BufS.keep {w w':World} {gb N:Nat} {pre:List UInt8} (h:BufS w gb N pre) (hb:Below w.heap.size w w'):BufS w' gb N pre:=by
 obtain ⟨rest,h1,h2⟩:=h
 exact ⟨rest,(hb.block gb (Array.getElem?_eq_some_iff.1 h1).1).trans h1,h2⟩
theorem BufS.lt {w:World} {gb N:Nat} {pre:List UInt8} (h:BufS w gb N pre):gb<w.heap.size:=by
 obtain ⟨rest,h1,h2⟩:=h
 exact (Array.getElem?_eq_some_iff.1 h1).1
theorem BufS.cell {w:World} {gb N:Nat} {pre:List UInt8} (h:BufS w gb N pre) (j:Nat) (hj:j<pre.length):w.cell? ⟨gb,j,none⟩=some (.int .u8 (pre[j].toNat:Int)):=by
 obtain ⟨rest,h1,h2⟩:=h
 rw [cell_of_row _ _ j _ _ (0,0) h1]
 simp [hj,List.getElem?_append_left,u8V]
theorem BufS.froz {w:World} {gb N:Nat} {pre:List UInt8} (h:BufS w gb N pre) (j:Nat):w.frozen? ⟨gb,j,none⟩=false:=by
 obtain ⟨rest,h1,h2⟩:=h
 exact frozen_of_row w gb j _ _ h1
theorem BufS.put {w:World} {gb N:Nat} {pre:List UInt8} (h:BufS w gb N pre) (hn:pre.length<N) (c:UInt8):BufS (w.setCell ⟨gb,pre.length,none⟩ (.int .u8 (c.toNat:Int))) gb N (pre ++ [c]):=by
 obtain ⟨rest,h1,h2⟩:=h
 match rest,h1,h2 with
 | [],h1,h2=>simp at h2;omega
 | y :: r,h1,h2 =>
  refine ⟨r,?_,by simp at h2 ⊢;omega⟩
  unfold World.setCell
  simp only [Array.getElem?_modify,if_pos]
  rw [h1]
  simp only [Option.map_some,Option.some.injEq,Obj.cells.injEq,and_true]
  apply Array.toList_inj.1
  simp [u8V]
theorem BufS.copy {w:World} {gb N:Nat} {pre:List UInt8} (h:BufS w gb N pre) (l:List UInt8) (hn:pre.length+l.length≤N) :
  ∃ cur:Array Value,w.heap[gb]?=some (.cells cur 5 (0,0))∧pre.length+(l.map u8V).length≤cur.size ∧
   BufS (w.setRow gb (cur.toList.take pre.length ++ l.map u8V ++ cur.toList.drop (pre.length+(l.map u8V).length)).toArray) gb N (pre ++ l):=by
 obtain ⟨rest,h1,h2⟩:=h
 refine ⟨_,h1,by simp;omega,rest.drop l.length,?_,by simp;omega⟩
 rw [setRow_heap w gb _ _ _ _ h1]
 simp only [Option.some.injEq,Obj.cells.injEq,and_true]
 apply Array.toList_inj.1
 simp only [List.length_map]
 have e1:(pre.map u8V ++ rest).take pre.length=pre.map u8V:=List.take_left' (by simp)
 have e2:(pre.map u8V ++ rest).drop (pre.length+l.length)=rest.drop l.length:=by
  rw [List.drop_append]
  simp [Nat.add_sub_cancel_left]
 simp only [List.map_append]
 rw [e1,e2]
end Go.Proofs.YtbljmfcifljkaaaGreatDoor
/-
  strings.Replacer: bytes are replaced by bytes. Own work.
-/
namespace Go.Proofs.YtbljmfcifljkaaaGreatDoor
open Go.RowKit
set_option maxRecDepth 100000
set_option maxHeartbeats 4000000
structure BufAt (g:Nat → Nat) (l:List UInt8) (i:Nat) (w wr:World) (gb:Nat):Prop where
 lo:w.heap.size≤gb
 hi:gb<wr.heap.size
 cell:∀ j (h:j<l.length),wr.cell? ⟨gb,j,none⟩=some (.int .u8 ((if j<i then UInt8.ofNat (g l[j].toNat) else l[j]).toNat:Int))
 froz:∀ j,j<l.length → wr.frozen? ⟨gb,j,none⟩=false
theorem BufAt.next {g:Nat → Nat} {l:List UInt8} {i:Nat} {w wr:World} {gb:Nat} (h:BufAt g l i w wr gb) (hi:i<l.length) (hg:g l[i].toNat=l[i].toNat):BufAt g l (i+1) w wr gb:=by
 refine ⟨h.lo,h.hi,fun j hj=>?_,h.froz⟩
 rw [h.cell j hj]
 by_cases e:j=i
 ·subst e
  rw [if_neg (by omega),if_pos (by omega),hg]
  simp
 ·by_cases e2:j<i
  ·rw [if_pos e2,if_pos (by omega)]
  ·rw [if_neg e2,if_neg (by omega)]
theorem BufAt.put {g:Nat → Nat} {l:List UInt8} {i:Nat} {w wr:World} {gb:Nat} (h:BufAt g l i w wr gb) (hi:i<l.length) (hg:g l[i].toNat<256):BufAt g l (i+1) w (wr.setCell ⟨gb,i,none⟩ (.int .u8 (g l[i].toNat:Int))) gb:=by
 refine ⟨h.lo,by rw [setCell_size];exact h.hi,fun j hj=>?_,fun j hj=>by rw [World.frozen?_setCell];exact h.froz j hj⟩
 by_cases e:j=i
 ·subst e
  rw [World.cell?_setCell_same _ _ _ (h.cell j hj),if_pos (by omega),UInt8.toNat_ofNat_of_lt' (by have:UInt8.size=256:=rfl;omega)]
 ·rw [World.cell?_setCell_other _ ⟨gb,i,none⟩ ⟨gb,j,none⟩ _ (by simp only [ne_eq,Addr.mk.injEq,not_and];omega),h.cell j hj]
  by_cases e2:j<i
  ·rw [if_pos e2,if_pos (by omega)]
  ·rw [if_neg e2,if_neg (by omega)]
end Go.Proofs.YtbljmfcifljkaaaGreatDoor
/-
  strings.Replacer: the first Replace with bytes for all letters. Own work.
-/
namespace Go.Proofs.YtbljmfcifljkaaaGreatDoor
open Go.RowKit
set_option maxRecDepth 100000
set_option maxHeartbeats 4000000
structure RpHas (w:World) (b:Nat) (c:Int) (m:Int) (r:Value):Prop where
 c0:w.cell? ⟨b,0,none⟩=some (.int .u32 c)
 c1:w.cell? ⟨b,1,none⟩=some (.int .i32 m)
 c3:w.cell? ⟨b,3,none⟩=some r
 fz:∀ j,w.frozen? ⟨b,j,none⟩=false
def TabP (g:Nat → Nat) (b:Nat) (w:World) (r:Value):Prop:=∃ tb,r=.iface 342 (.pointer (some ⟨tb,0,none⟩))∧tb ≠ b∧TabAt w tb 341 256 (fun j=>.int .u8 (g j:Int))
theorem TabP.set {g:Nat → Nat} {b:Nat}:∀ (w w':World) (r:Value) (a:Addr) (u:Value),TabP g b w r → a.block=b → w'=w.setCell a u → TabP g b w' r:=by
 rintro w w' r a u ⟨tb,h1,h2,h3⟩ ha rfl
 refine ⟨tb,h1,h2,?_⟩
 unfold TabAt
 rw [Below.heap_setCell _ _ _ _ (by rw [ha];exact h2)]
 exact h3
end Go.Proofs.YtbljmfcifljkaaaGreatDoor
/-
  strings.Replacer: Replace where some letter has a text of two bytes. Own work.
-/
namespace Go.Proofs.YtbljmfcifljkaaaGreatDoor
open Go.RowKit
set_option maxRecDepth 100000
set_option maxHeartbeats 4000000
def StrP (L:List (UInt8 × ByteArray)) (b:Nat) (w:World) (r:Value):Prop:=∃ B tb gt,r=.iface 346 (.pointer (some ⟨tb,0,none⟩))∧b<B∧StrTab w B tb gt L
theorem StrP.set {L:List (UInt8 × ByteArray)} {b:Nat}:∀ (w w':World) (r:Value) (a:Addr) (u:Value),StrP L b w r → a.block=b → w'=w.setCell a u → StrP L b w' r:=by
 rintro w w' r a u ⟨B,tb,gt,h1,h2,f,k1,k2,k3,k4,k5,k6,k7⟩ ha rfl
 have hb:∀ k,k ≠ b → (w.setCell a u).heap[k]?=w.heap[k]?:=fun k hk=>Below.heap_setCell _ _ _ _ (by rw [ha];exact hk)
 refine ⟨B,tb,gt,h1,h2,f,(hb tb (by omega)).trans k1,k2,k3,k4,k5,owns_blk k6 (fun k hk=>by rw [k5] at hk;simp [Value.ownBlock] at hk;subst hk;exact hb _ (by omega)),fun c=>?_⟩
 have h9:=k7 c
 cases hd:dN L c with
 | none=>rw [hd] at h9;exact h9
 | some t =>
  rw [hd] at h9
  obtain ⟨g,cap,e,q1,q2,⟨q3,cs,fr,q4⟩,q5⟩:=h9
  exact ⟨g,cap,e,q1,q2,⟨q3,cs,fr,(hb g (by omega)).trans q4⟩,fun j hj=>(World.cell?_of_block (hb g (by omega))).trans (q5 j hj)⟩
theorem StrP.keep {L:List (UInt8 × ByteArray)} {b:Nat} {w w':World} {r:Value} (h:StrP L b w r) (hb:Below w.heap.size w w'):StrP L b w' r:=by
 obtain ⟨B,tb,gt,h1,h2,h3⟩:=h
 exact ⟨B,tb,gt,h1,h2,h3.keep hb⟩
end Go.Proofs.YtbljmfcifljkaaaGreatDoor
/-
  strings.Replacer: made of five letters and their texts, it replaces. Own work.
-/
namespace Go.Proofs.YtbljmfcifljkaaaGreatDoor
open Go.RowKit
set_option maxRecDepth 100000
set_option maxHeartbeats 4000000
def by0 (x:ByteArray):Nat:=(x.data.toList.headD 0).toNat
def gB (x0 x1 x2 x3 x4:ByteArray) (j:Nat):Nat:=if j=75 then by0 x0 else if j=76 then by0 x1 else if j=77 then by0 x2 else if j=83 then by0 x3 else if j=78 then by0 x4 else j
def RpSt (w:World) (b:Nat) (x0 x1 x2 x3 x4:ByteArray):Prop :=
 (∃ g c,RpNew w b (.slice (some ⟨g,0,none⟩) 10 c) [x0,x1,x2,x3,x4]∧g<b) ∨
 (∃ r,RpHas w b 1 0 r∧TabP (gB x0 x1 x2 x3 x4) b w r∧x0.size=1∧x1.size=1∧x2.size=1∧x3.size=1∧x4.size=1) ∨
 (∃ r,RpHas w b 1 0 r∧StrP (lxL [x0,x1,x2,x3,x4]) b w r)
theorem RpHas.keep {w w':World} {b:Nat} {c m:Int} {r:Value} (h:RpHas w b c m r) (hb:Below w.heap.size w w'):RpHas w' b c m r :=
 ⟨cell_keep hb h.c0,cell_keep hb h.c1,cell_keep hb h.c3,fun j=>(hb.frozen (p:=⟨b,j,none⟩) (cell_lt h.c0)).trans (h.fz j)⟩
theorem OnAt.keep {w w':World} {v:Value} {xs:List ByteArray} (h:OnAt w v xs) (hb:Below w.heap.size w w'):OnAt w' v xs:=by
 obtain ⟨h1,g,o,c,h2,h3,h4⟩:=h
 exact ⟨h1,g,o,c,h2,h3,fun k hk=>⟨cell_keep hb (h4 k hk).1,cell_keep hb (h4 k hk).2⟩⟩
theorem RpNew.keep {w w':World} {b:Nat} {v:Value} {xs:List ByteArray} (h:RpNew w b v xs) (hb:Below w.heap.size w w'):RpNew w' b v xs :=
 ⟨cell_keep hb h.c0,cell_keep hb h.c1,cell_keep hb h.c3,cell_keep hb h.c4,fun j=>(hb.frozen (p:=⟨b,j,none⟩) (cell_lt h.c0)).trans (h.fz j),h.on.keep hb⟩
theorem RpSt.keep {w w':World} {b:Nat} {x0 x1 x2 x3 x4:ByteArray} (h:RpSt w b x0 x1 x2 x3 x4) (hb:Below w.heap.size w w'):RpSt w' b x0 x1 x2 x3 x4:=by
 rcases h with ⟨g,c,h1,h2⟩|⟨r,h1,⟨tb,h2,h3,h4⟩,h5⟩|⟨r,h1,h2⟩
 ·exact .inl ⟨g,c,h1.keep hb,h2⟩
 ·exact .inr (.inl ⟨r,h1.keep hb,⟨tb,h2,h3,h4.keep hb⟩,h5⟩)
 ·exact .inr (.inr ⟨r,h1.keep hb,h2.keep hb⟩)
theorem RpSt.grown {w w':World} {b:Nat} {x0 x1 x2 x3 x4:ByteArray} {row:Option Nat} (h:RpSt w b x0 x1 x2 x3 x4) (hg:w.grownBy w' row) (hr:∀ k,row=some k → b<k∧∃ cs fr,w.heap[k]?=some (.cells cs 32 fr)):RpSt w' b x0 x1 x2 x3 x4:=by
 have hk:∀ (k:Nat) (cs:Array Value) (t:TypeId) (fr:Nat × Nat),w.heap[k]?=some (Obj.cells cs t fr) → t ≠ 32 → w'.heap[k]?=w.heap[k]?:=fun k cs t fr h1 h2=>hg.block k (Array.getElem?_eq_some_iff.1 h1).1 (fun e=>by
  obtain ⟨_,cs',fr',h3⟩:=hr k e.symm
  rw [h1] at h3
  simp only [Option.some.injEq,Obj.cells.injEq] at h3
  exact h2 h3.2.1)
 have hb:∀ k,k≤b → k<w.heap.size → w'.heap[k]?=w.heap[k]?:=fun k h1 h2=>hg.block k h2 (fun e=>by have:=(hr k e.symm).1;omega)
 have hc:∀ {k j:Nat} {u:Value},k≤b → w.cell? ⟨k,j,none⟩=some u → w'.cell? ⟨k,j,none⟩=some u:=fun h1 h2=>(World.cell?_of_block (hb _ h1 (cell_lt h2))).trans h2
 have hhas:∀ {c m:Int} {r:Value},RpHas w b c m r → RpHas w' b c m r:=fun h=>⟨hc (Nat.le_refl _) h.c0,hc (Nat.le_refl _) h.c1,hc (Nat.le_refl _) h.c3,fun j=>(World.frozen?_of_block (a:=⟨b,j,none⟩) (hb b (Nat.le_refl _) (cell_lt h.c0))).trans (h.fz j)⟩
 rcases h with ⟨g,c,h1,h2⟩|⟨r,h1,⟨tb,h2,h3,h4⟩,h5⟩|⟨r,h1,B,tb,gt,h2,h3,f,k1,k2,k3,k4,k5,k6,k7⟩
 ·refine .inl ⟨g,c,⟨hc (Nat.le_refl _) h1.c0,hc (Nat.le_refl _) h1.c1,hc (Nat.le_refl _) h1.c3,hc (Nat.le_refl _) h1.c4,fun j=>(World.frozen?_of_block (a:=⟨b,j,none⟩) (hb b (Nat.le_refl _) (cell_lt h1.c0))).trans (h1.fz j),?_⟩,h2⟩
  obtain ⟨q1,g',o,c',q2,q3,q4⟩:=h1.on
  simp only [Value.slice.injEq,Option.some.injEq,Addr.mk.injEq,and_true,true_and] at q2
  obtain ⟨⟨rfl,rfl⟩,rfl⟩:=q2
  exact ⟨q1,g,0,c,rfl,q3,fun k hk=>⟨hc (by omega) (q4 k hk).1,hc (by omega) (q4 k hk).2⟩⟩
 ·exact .inr (.inl ⟨r,hhas h1,⟨tb,h2,h3,(hk tb _ _ _ h4 (by decide)).trans h4⟩,h5⟩)
 ·have hgt:w'.heap[gt]?=w.heap[gt]?:=by
   rcases k6.2 with ⟨e,_⟩|⟨g,cap,cur,e,_,e2,_⟩
   ·rw [k5] at e;cases e
   ·rw [k5] at e
    simp only [Value.slice.injEq,Option.some.injEq,Addr.mk.injEq,and_true,true_and] at e
    rw [← e.1] at e2
    exact hk gt _ _ _ e2 (by decide)
  refine .inr (.inr ⟨r,hhas h1,B,tb,gt,h2,h3,f,(hk tb _ _ _ k1 (by decide)).trans k1,k2,k3,k4,k5,owns_blk k6 (fun k e=>by rw [k5] at e;simp [Value.ownBlock] at e;subst e;exact hgt),fun c=>?_⟩)
  have h9:=k7 c
  cases hd:dN (lxL [x0,x1,x2,x3,x4]) c with
  | none=>rw [hd] at h9;exact h9
  | some t =>
   rw [hd] at h9
   obtain ⟨g,cap,e,q1,q2,⟨q3,cs,fr,q4⟩,q5⟩:=h9
   have hgg:=hk g _ _ _ q4 (by decide)
   exact ⟨g,cap,e,q1,q2,⟨q3,cs,fr,hgg.trans q4⟩,fun j hj=>(World.cell?_of_block hgg).trans (q5 j hj)⟩
end Go.Proofs.YtbljmfcifljkaaaGreatDoor
/-
  The axioms' trees are terms, and their texts are read as them. Plain. Own work.
-/
namespace Go.Proofs.YtbljmfcifljkaaaGreatDoor
set_option maxRecDepth 100000
end Go.Proofs.YtbljmfcifljkaaaGreatDoor
/-
  The table's texts, their letters replaced, are the printed trees. Plain. Own work.
-/
namespace Go.Proofs.YtbljmfcifljkaaaGreatDoor
set_option maxRecDepth 100000
end Go.Proofs.YtbljmfcifljkaaaGreatDoor
/-
  The program's table of axioms. Own work.
-/
namespace Go.Proofs.YtbljmfcifljkaaaGreatDoor
open Go.RowKit
set_option maxRecDepth 100000
set_option maxHeartbeats 4000000
def TxAt (w:World) (g:Nat):Prop:=∀ i,∀ h:i<27,w.cell? ⟨g,i * 3,none⟩=some (.string (axTxt[i]'h).1)∧w.cell? ⟨g,i * 3+1,none⟩=some (.string (axTxt[i]'h).2.1)∧w.cell? ⟨g,i * 3+2,none⟩=some (.string (axTxt[i]'h).2.2)
theorem TxAt.keep {w w':World} {g:Nat} (h:TxAt w g) (hb:Below w.heap.size w w'):TxAt w' g:=fun i hi =>
 ⟨cell_keep hb (h i hi).1,cell_keep hb (h i hi).2.1,cell_keep hb (h i hi).2.2⟩
end Go.Proofs.YtbljmfcifljkaaaGreatDoor
/-
  The program's axioms: the first loop. Own work.
-/
namespace Go.Proofs.YtbljmfcifljkaaaGreatDoor
open Go.RowKit
set_option maxRecDepth 100000
set_option maxHeartbeats 4000000
theorem nds_exc {w w':World} {B b:Nat} {v:Value} {ns:List Nd} (h:NdsOwn w B v ns) (hE:Exc (fun k=>k=b) w w') (hb:b<B):NdsOwn w' B v ns :=
 owns_exc hE h (fun k hk e=>by have:=(World.ownsRow.lt h k hk).1;omega)
theorem RuIn.exc {w w':World} {B b:Nat} {ys:List RuV} (h:RuIn w B ys) (hE:Exc (fun k=>k=b) w w') (hb:b<B):RuIn w' B ys :=
 ⟨fun y hy=>⟨nds_exc (h.1 y hy).1 hE hb,nds_exc (h.1 y hy).2.1 hE hb,(h.1 y hy).2.2⟩,h.2⟩
theorem RuRow.exc {w w':World} {B b:Nat} {v:Value} {ys:List RuV} (h:RuRow w B v ys) (hE:Exc (fun k=>k=b) w w') (hb:b<B):RuRow w' B v ys :=
 ⟨owns_exc hE h.1 (fun k hk e=>by have:=(World.ownsRow.lt h.1 k hk).1;omega),RuIn.exc h.2 hE hb⟩
theorem cell_exc {w w':World} {b g j:Nat} {u:Value} (hE:Exc (fun k=>k=b) w w') (h:w.cell? ⟨g,j,none⟩=some u) (hg:¬ g=b):w'.cell? ⟨g,j,none⟩=some u :=
 (hE.cell.1 g j (cell_lt h) hg).trans h
theorem TxAt.exc {w w':World} {b g:Nat} (h:TxAt w g) (hE:Exc (fun k=>k=b) w w') (hg:¬ g=b):TxAt w' g:=fun i hi =>
 ⟨cell_exc hE (h i hi).1 hg,cell_exc hE (h i hi).2.1 hg,cell_exc hE (h i hi).2.2 hg⟩
theorem TxAt.lt {w:World} {g:Nat} (h:TxAt w g):g<w.heap.size:=cell_lt (h 0 (by omega)).1
structure AxT (wr w2:World) (b n:Nat) (xs:List RuV) (v:Value) (ys:List RuV):Prop where
 row:RuRow w2 (b+1) v ys
 tag:∀ y ∈ ys,y ∈ xs.take n∨(NdsOwn w2 wr.heap.size y.2.1 y.1.left∧NdsOwn w2 wr.heap.size y.2.2 y.1.right)
 bel:Below wr.heap.size wr w2
 blk:∀ k,v.ownBlock=some k → wr.heap.size≤k
theorem RuSep.symm {x y:RuV} (h:RuSep x y):RuSep y x:=⟨h.1.symm,h.2.2.1.symm,h.2.1.symm,h.2.2.2.symm⟩
theorem AxT.keep {wr w2 w3:World} {b n:Nat} {xs ys:List RuV} {v:Value} (h:AxT wr w2 b n xs v ys) (hb:Below w2.heap.size w2 w3):AxT wr w3 b n xs v ys :=
 ⟨h.row.keep hb,fun y hy=>(h.tag y hy).imp id fun h=>⟨h.1.keep hb,h.2.keep hb⟩,h.bel.trans (hb.mono h.bel.size),h.blk⟩
theorem nds_row_ne {w:World} {B B':Nat} {v u:Value} {ys:List RuV} {ns:List Nd} (h:RuRow w B v ys) (hu:NdsOwn w B' u ns):∀ k,u.ownBlock=some k → v.ownBlock ≠ some k:=fun k hk=>owns_ne hu h.1 (by decide) k hk
theorem AxT.put {wr w2 w3:World} {b n m:Nat} {xs ys zs:List RuV} {v v':Value} (h:AxT wr w2 b n xs v ys) (hn:n≤m) (hrow:RuRow w3 (b+1) v' (ys ++ zs)) (hg:w2.grownBy w3 v.ownBlock) (hv:v'.ownBlock=v.ownBlock∨v'.ownBlock=some w2.heap.size)
  (hz:∀ z ∈ zs,z ∈ xs.take m∨(NdsOwn w2 wr.heap.size z.2.1 z.1.left∧NdsOwn w2 wr.heap.size z.2.2 z.1.right)):AxT wr w3 b m xs v' (ys ++ zs):=by
 have mv:∀ (u:Value) ns,NdsOwn w2 wr.heap.size u ns → NdsOwn w3 wr.heap.size u ns:=fun u ns hu=>nds_grown hu hg (nds_row_ne h.row hu)
 refine ⟨hrow,fun y hy=>?_,h.bel.grown hg h.bel.size h.blk,?_⟩
 ·rcases List.mem_append.1 hy with hy|hy
  ·rcases h.tag y hy with h1|h1
   ·exact .inl ((List.take_subset_take_left xs hn) h1)
   ·exact .inr ⟨mv _ _ h1.1,mv _ _ h1.2⟩
  ·exact (hz y hy).imp id fun h1=>⟨mv _ _ h1.1,mv _ _ h1.2⟩
 ·intro k hk
  rcases hv with e|e
  ·exact h.blk k (by rw [← e];exact hk)
  ·rw [e] at hk;cases hk;exact h.bel.size
end Go.Proofs.YtbljmfcifljkaaaGreatDoor
/-
  The program's axioms, walked. Own work.
-/
namespace Go.Proofs.YtbljmfcifljkaaaGreatDoor
open Go.RowKit
set_option maxRecDepth 100000
set_option maxHeartbeats 4000000
end Go.Proofs.YtbljmfcifljkaaaGreatDoor
/-
  The program's AxiomsOf. Own work.
-/
namespace Go.Proofs.YtbljmfcifljkaaaGreatDoor
open Go.RowKit
set_option maxRecDepth 100000
set_option maxHeartbeats 4000000
end Go.Proofs.YtbljmfcifljkaaaGreatDoor
/-
  Valid sessions, the program's. Own work.
-/
namespace Go.Proofs.YtbljmfcifljkaaaGreatDoor
open Go.RowKit
set_option maxRecDepth 100000
set_option maxHeartbeats 4000000
theorem SnOk.graphs {s:SnI} (h:SnOk s):∀ g ∈ s.graphs,GrOk g:=by
 intro g hg
 unfold SnI.graphs at hg
 simp only [List.mem_cons,List.mem_append] at hg
 rcases hg with rfl|rfl|hg|hg
 ·exact h.now
 ·exact h.goal
 ·exact h.past g hg
 ·exact h.future g hg
end Go.Proofs.YtbljmfcifljkaaaGreatDoor
/-
  A graph of a session, the reference's, given hgValid and hgMono. Own work.
-/
namespace Go.Proofs.YtbljmfcifljkaaaGreatDoor
open Go.RowKit
set_option maxRecDepth 100000
set_option maxHeartbeats 4000000
def HgM:Prop:=∀ (ve vi vo:Value) (g:GrI) (u:World),GrR u ve vi vo g → GrOk g → grB g=true → Calls Tryz.prog 134 #[.agg #[.int .i64 g.wires,ve,vi,vo]] u (FlP (monoB g) u)
end Go.Proofs.YtbljmfcifljkaaaGreatDoor
