/-
  A drawn disk, opened: two strings. Own work.
-/
import Derived.Test.YtldhpaflmnlcaaaGreatDoorQOB
set_option linter.all false
set_option maxRecDepth 100000
set_option maxHeartbeats 8000000
namespace Go.Proofs.YtldhpaflmnlcaaaGreatDoor
open Go.ChangeShapes Go.WideShapes Go.Deep
section
variable {H:Type} {enc:TypeId × Value → H} {w:World} {base:Nat} {spare:Nat → Bool} {held:Bool}
theorem open_disk {fuel:Nat} {cs:List Value} {x:DataW H × List MemPlace} (h:DataW.trod enc Tryz.prog w base spare held fuel 70 cs=some x) :
  ∃ (s t:ByteArray),cs=[.string s,.string t]∧s.size≤Rows.uptoBulk x.1∧t.size≤Rows.uptoBulk x.1:=by
 obtain ⟨y0,y1,n,hx,hl,h0,h1⟩:=trod_struct2 Tryz.underlying70 h
 rw [hx]
 rw [show Tryz.prog.cellsOf 70=2 by kernel_rfl] at hl
 obtain ⟨a,b,rfl⟩:∃ a b,cs=[a,b]:=by
  match cs,hl with
  | [a,b],_=>exact ⟨a,b,rfl⟩
 simp only [show Tryz.prog.cellsOf 9=1 by kernel_rfl,List.drop,List.take] at h0 h1
 obtain ⟨s,e0,q0,_⟩:=DataW.trod_string Tryz.underlying9 h0
 obtain ⟨t,e1,q1,_⟩:=DataW.trod_string Tryz.underlying9 h1
 simp at e0 e1
 subst e0 e1
 subst q0 q1
 have i1:=bulk_lit_string (H:=H) s
 have i2:=bulk_lit_string (H:=H) t
 refine ⟨s,t,rfl,?_,?_⟩
 ·simp only [Rows.uptoBulkAll,Rows.uptoBulk] at i1 i2 ⊢
  omega
 ·simp only [Rows.uptoBulkAll,Rows.uptoBulk] at i1 i2 ⊢
  omega
end
end Go.Proofs.YtldhpaflmnlcaaaGreatDoor
