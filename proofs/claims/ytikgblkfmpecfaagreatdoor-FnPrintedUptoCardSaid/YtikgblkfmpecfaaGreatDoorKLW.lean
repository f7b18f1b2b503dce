/-
  Libraries read from their texts. No program in sight. Own work.
-/
import Derived.Test.YtikgblkfmpecfaaGreatDoorKAA
import Derived.Lib.IndexMore
import Derived.Test.YtikgblkfmpecfaaGreatDoorKT
import Derived.Test.YtikgblkfmpecfaaGreatDoorKA
set_option linter.all false
set_option maxRecDepth 100000
set_option maxHeartbeats 8000000
namespace Go.Proofs.YtikgblkfmpecfaaGreatDoor
open Go.RowKit
def bytesOf (l:List UInt8):ByteArray:=⟨l.toArray⟩
end Go.Proofs.YtikgblkfmpecfaaGreatDoor
/-
  strings.Cut at this dump, and where its one global lies. Own work.
-/
namespace Go.Proofs.YtikgblkfmpecfaaGreatDoor
open Go.RowKit
def CutTab (w:World):Prop:=∃ m,w.cell? ⟨2,0,none⟩=some (.int .i64 m)
theorem CutTab.keep {w w':World} (hb:Below w.heap.size w w') (h:CutTab w):CutTab w':=⟨h.choose,cell_keep hb h.choose_spec⟩
end Go.Proofs.YtikgblkfmpecfaaGreatDoor
/-
  The reference's l1Split: the parts of a text. Own work.
-/
namespace Go.Proofs.YtikgblkfmpecfaaGreatDoor
open Go.RowKit
def ptCells (p:List UInt8):List Value:=[.string (bytesOf p)]
theorem ptCells_len (p:List UInt8):(ptCells p).length=1:=rfl
def PartsOwn (w:World) (B:Nat) (v:Value) (ps:List (List UInt8)):Prop:=w.ownsRow B 9 1 v ps.length (ps.flatMap ptCells)
def PartsAt (w:World) (v:Value) (ps:List (List UInt8)):Prop:=SlAt 1 v ps.length fun i b o=>∃ h:i<ps.length,w.cell? ⟨b,o,none⟩=some (.string (bytesOf ps[i]))
theorem PartsOwn.at {w:World} {B:Nat} {v:Value} {ps:List (List UInt8)} (h:PartsOwn w B v ps):PartsAt w v ps:=by
 refine owns_slat h _ fun i b o hi hc=>⟨hi,?_⟩
 have g:∀ j,j<1 → w.cell? ⟨b,o+j,none⟩=(ptCells ps[i])[j]?:=fun j hj=>(hc j hj).trans (flat_get ptCells_len ps i j hi hj)
 exact g 0 (by omega)
theorem PartsAt.keep {w w':World} (hb:Below w.heap.size w w') {v:Value} {ps:List (List UInt8)} (h:PartsAt w v ps):PartsAt w' v ps :=
 h.mono fun i b o ⟨hi,hr⟩=>⟨hi,cell_keep hb hr⟩
end Go.Proofs.YtikgblkfmpecfaaGreatDoor
/-
  Entries read from their texts. No program in sight. Own work.
-/
namespace Go.Proofs.YtikgblkfmpecfaaGreatDoor
open Go.RowKit
theorem good_names {L:List Df} (h:good L=true):∀ d ∈ L,nameB d.name=true:=by
 have go:∀ (A P:List Df),goodGo P A=true → ∀ d ∈ A,nameB d.name=true:=by
  intro A
  induction A with
  | nil=>intro P _ d hd;cases hd
  | cons a A ih =>
   intro P hp d hd
   simp only [goodGo,Bool.and_eq_true] at hp
   rcases List.mem_cons.1 hd with rfl|hd
   ·have:=hp.1;simp only [goodAt,Bool.and_eq_true] at this;exact this.1.2
   ·exact ih _ hp.2 d hd
 simp only [good,Bool.and_eq_true] at h
 exact go L [] h.2
def e0:En:=⟨0,⟨#[]⟩,⟨#[]⟩,[]⟩
end Go.Proofs.YtikgblkfmpecfaaGreatDoor
