/-
  The law's equality of rules. Own work.
-/
import Derived.Test.YtbljmfcifljkaaaGreatDoorYRU
set_option linter.all false
set_option maxRecDepth 100000
set_option maxHeartbeats 8000000
namespace Go.Proofs.YtbljmfcifljkaaaGreatDoor
open Go.RowKit
def RuEq (a b:Rul) (w:World) (e:Ending) (w':World):Prop:=e=.returned (.bool (decide (a=b)))∧Below w.heap.size w w'
theorem eqRule_any (vl vr ul ur:Value) (a b:Rul) (w:World) (h1:NdsAt w vl a.left) (h2:NdsAt w vr a.right) (h3:NdsAt w ul b.left) (h4:NdsAt w ur b.right)
  (n1:a.left.length≤1048576) (n2:a.right.length≤1048576) (n3:b.left.length≤1048576) (n4:b.right.length≤1048576) :
  Calls Tryz.prog 15 #[.agg #[.string a.name,vl,vr],.agg #[.string b.name,ul,ur]] w (RuEq a b w):=by
 obtain ⟨p1,c1,rfl⟩:=h1.slice
 obtain ⟨p2,c2,rfl⟩:=h2.slice
 obtain ⟨p3,c3,rfl⟩:=h3.slice
 obtain ⟨p4,c4,rfl⟩:=h4.slice
 have hB:∀ o o',Below w.heap.size w ((w.alloc o).alloc o'):=fun o o'=>((Below.refl _ _).alloc (Nat.le_refl _) _).alloc (by simp) _
 by_cases hn:a.name=b.name
 ·obtain ⟨nm,x,x'⟩:=a
  obtain ⟨nm',y,y'⟩:=b
  simp only at hn h1 h2 h3 h4 n1 n2 n3 n4
  subst hn
  by_cases hl:x=y
  ·subst hl
   by_cases hr:x'=y'
   ·subst hr
    go_enter Tryz.func15,Tryz.ntmps15
    go_wp2_with fail
    refine (eqTerm_any _ _ x x _ (h1.keep (hB _ _)) (h3.keep (hB _ _)) n1 n3).mono ?_
    rintro e w2 ⟨rfl,hb2⟩
    rw [show decide (x=x)=true by simp]
    obtain ⟨hc2,hf2,hs2⟩:=bcell hb2
    have hb2':=(hB _ _).trans (hb2.mono (by simp;omega))
    go_wp2_with fail
    refine (eqTerm_any _ _ x' x' _ (h2.keep hb2') (h4.keep hb2') n2 n4).mono ?_
    rintro e w3 ⟨rfl,hb3⟩
    rw [show decide (x'=x')=true by simp]
    go_wp2
    go_ret
    exact ⟨by simp,hb2'.trans (hb3.mono hb2'.size)⟩
   ·go_enter Tryz.func15,Tryz.ntmps15
    go_wp2_with fail
    refine (eqTerm_any _ _ x x _ (h1.keep (hB _ _)) (h3.keep (hB _ _)) n1 n3).mono ?_
    rintro e w2 ⟨rfl,hb2⟩
    rw [show decide (x=x)=true by simp]
    obtain ⟨hc2,hf2,hs2⟩:=bcell hb2
    have hb2':=(hB _ _).trans (hb2.mono (by simp;omega))
    have he:decide (x'=y')=false:=by simp [hr]
    have HR:=Lib.hid hr
    clear hr
    go_wp2_with fail
    refine (eqTerm_any _ _ x' y' _ (h2.keep hb2') (h4.keep hb2') n2 n4).mono ?_
    rintro e w3 ⟨rfl,hb3⟩
    rw [he]
    go_wp2
    go_ret
    exact ⟨by have:=HR.out;simp [this],hb2'.trans (hb3.mono hb2'.size)⟩
  ·have he:decide (x=y)=false:=by simp [hl]
   have HR:=Lib.hid hl
   clear hl
   go_enter Tryz.func15,Tryz.ntmps15
   go_wp2_with fail
   refine (eqTerm_any _ _ x y _ (h1.keep (hB _ _)) (h3.keep (hB _ _)) n1 n3).mono ?_
   rintro e w2 ⟨rfl,hb2⟩
   rw [he]
   go_wp2
   go_ret
   exact ⟨by have:=HR.out;simp [this],(hB _ _).trans (hb2.mono (by simp;omega))⟩
 ·go_enter Tryz.func15,Tryz.ntmps15
  have hne:(!a.name.toList == b.name.toList)=true:=by
   rw [str_beq];simp [hn]
  go_wp2
  go_ret
  have hab:¬ a=b:=fun h=>hn (by rw [h])
  exact ⟨by simp [hab],hB _ _⟩
end Go.Proofs.YtbljmfcifljkaaaGreatDoor
