/-
  strings.Replacer: bytes are replaced by bytes. Own work.
-/
import Derived.Test.YtbljmfcifljkaaaGreatDoorYSY
import Derived.Test.YtbljmfcifljkaaaGreatDoorYLW
import Derived.Lib.AppendIntMem
import Derived.Test.YtbljmfcifljkaaaGreatDoorYC
set_option linter.all false
set_option maxRecDepth 100000
set_option maxHeartbeats 8000000
namespace Go.Proofs.YtbljmfcifljkaaaGreatDoor
open Go.RowKit
set_option maxRecDepth 100000
set_option maxHeartbeats 4000000
structure BufAt (g:Nat → Nat) (l:List UInt8) (i:Nat) (w wr:World) (gb:Nat):Prop where
 lo:w.heap.size≤gb
 hi:gb<wr.heap.size
 cell:∀ j (h:j<l.length),wr.cell? ⟨gb,j,none⟩=some (.int .u8 ((if j<i then UInt8.ofNat (g l[j].toNat) else l[j]).toNat:Int))
 froz:∀ j,j<l.length → wr.frozen? ⟨gb,j,none⟩=false
theorem BufAt.next {g:Nat → Nat} {l:List UInt8} {i:Nat} {w wr:World} {gb:Nat} (h:BufAt g l i w wr gb) (hi:i<l.length) (hg:g l[i].toNat=l[i].toNat):BufAt g l (i+1) w wr gb:=by
 refine ⟨h.lo,h.hi,fun j hj=>?_,h.froz⟩
 rw [h.cell j hj]
 by_cases e:j=i
 ·subst e
  rw [if_neg (by omega),if_pos (by omega),hg]
  simp
 ·by_cases e2:j<i
  ·rw [if_pos e2,if_pos (by omega)]
  ·rw [if_neg e2,if_neg (by omega)]
theorem BufAt.put {g:Nat → Nat} {l:List UInt8} {i:Nat} {w wr:World} {gb:Nat} (h:BufAt g l i w wr gb) (hi:i<l.length) (hg:g l[i].toNat<256):BufAt g l (i+1) w (wr.setCell ⟨gb,i,none⟩ (.int .u8 (g l[i].toNat:Int))) gb:=by
 refine ⟨h.lo,by rw [setCell_size];exact h.hi,fun j hj=>?_,fun j hj=>by rw [World.frozen?_setCell];exact h.froz j hj⟩
 by_cases e:j=i
 ·subst e
  rw [World.cell?_setCell_same _ _ _ (h.cell j hj),if_pos (by omega),UInt8.toNat_ofNat_of_lt' (by have:UInt8.size=256:=rfl;omega)]
 ·rw [World.cell?_setCell_other _ ⟨gb,i,none⟩ ⟨gb,j,none⟩ _ (by simp only [ne_eq,Addr.mk.injEq,not_and];omega),h.cell j hj]
  by_cases e2:j<i
  ·rw [if_pos e2,if_pos (by omega)]
  ·rw [if_neg e2,if_neg (by omega)]
end Go.Proofs.YtbljmfcifljkaaaGreatDoor
/-
  strings.Replacer: the first Replace with bytes for all letters. Own work.
-/
namespace Go.Proofs.YtbljmfcifljkaaaGreatDoor
open Go.RowKit
set_option maxRecDepth 100000
set_option maxHeartbeats 4000000
structure RpHas (w:World) (b:Nat) (c:Int) (m:Int) (r:Value):Prop where
 c0:w.cell? ⟨b,0,none⟩=some (.int .u32 c)
 c1:w.cell? ⟨b,1,none⟩=some (.int .i32 m)
 c3:w.cell? ⟨b,3,none⟩=some r
 fz:∀ j,w.frozen? ⟨b,j,none⟩=false
def TabP (g:Nat → Nat) (b:Nat) (w:World) (r:Value):Prop:=∃ tb,r=.iface 342 (.pointer (some ⟨tb,0,none⟩))∧tb ≠ b∧TabAt w tb 341 256 (fun j=>.int .u8 (g j:Int))
theorem TabP.set {g:Nat → Nat} {b:Nat}:∀ (w w':World) (r:Value) (a:Addr) (u:Value),TabP g b w r → a.block=b → w'=w.setCell a u → TabP g b w' r:=by
 rintro w w' r a u ⟨tb,h1,h2,h3⟩ ha rfl
 refine ⟨tb,h1,h2,?_⟩
 unfold TabAt
 rw [Below.heap_setCell _ _ _ _ (by rw [ha];exact h2)]
 exact h3
end Go.Proofs.YtbljmfcifljkaaaGreatDoor
