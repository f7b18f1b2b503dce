/-
  strings.Cut at this dump, and where its one global lies. Own work.
-/
import Derived.Test.YtldhpaflmnlcaaaGreatDoorQT
import Derived.Test.YtldhpaflmnlcaaaGreatDoorQLibP
import Derived.Test.YtldhpaflmnlcaaaGreatDoorQA
set_option linter.all false
namespace Go.Proofs.YtldhpaflmnlcaaaGreatDoor
open Go.RowKit
def CutTab (w:World):Prop:=∃ m,w.cell? ⟨2,0,none⟩ = some (.int .i64 m)
theorem CutTab.keep {w w':World} (hb:Below w.heap.size w w') (h:CutTab w):CutTab w':=⟨h.choose,cell_keep hb h.choose_spec⟩
theorem cutTab {w:World} (h:w.ShapedOpen Tryz.prog):CutTab w :=
 cell_of_shapedOpen_int (zero:=#[.int .i64 0]) (t:=3) h (of_decide_eq_true (by kernel_rfl)) (by kernel_rfl) rfl (by kernel_rfl) (by kernel_rfl) Tryz.underlying3
theorem cut_any (s sep:ByteArray) (w:World) (ht:CutTab w) (hs:s.size≤4194304) :
  Calls Tryz.prog 75 #[.string s,.string sep] w fun e w'=>e = .returned (.tuple #[.string (bytesOf (Lib.cut s.data.toList sep.data.toList).1),.string (bytesOf (Lib.cut s.data.toList sep.data.toList).2.1),.bool (Lib.cut s.data.toList sep.data.toList).2.2])∧Below w.heap.size w w':=by
 obtain ⟨m,hm⟩:=ht
 refine (Tryz.strings_Cut s sep m w (by omega) hm).mono ?_
 rintro e w' ⟨rfl,n,rfl⟩
 exact ⟨rfl,below_drewN (Below.refl _ _) _⟩
theorem cut_no {t:ByteArray} {b:UInt8} {w:World} (ht:CutTab w) (hs:t.size≤4194304) (h:Lib.cut t.data.toList [b] = (t.data.toList,[],false)) :
  Calls Tryz.prog 75 #[.string t,.string ⟨#[b]⟩] w fun e w'=>e = .returned (.tuple #[.string t,.string ⟨#[]⟩,.bool false])∧Below w.heap.size w w':=by
 refine (cut_any t ⟨#[b]⟩ w ht hs).mono ?_
 rintro e w' ⟨rfl,hb⟩
 refine ⟨?_,hb⟩
 rw [show (⟨#[b]⟩:ByteArray).data.toList = [b] from rfl,h]
 cases t;rfl
theorem cut_yes {t:ByteArray} {b:UInt8} {x r:List UInt8} {w:World} (ht:CutTab w) (hs:t.size≤4194304) (h:Lib.cut t.data.toList [b] = (x,r,true)) :
  Calls Tryz.prog 75 #[.string t,.string ⟨#[b]⟩] w fun e w'=>e = .returned (.tuple #[.string (bytesOf x),.string (bytesOf r),.bool true])∧Below w.heap.size w w':=by
 refine (cut_any t ⟨#[b]⟩ w ht hs).mono ?_
 rintro e w' ⟨rfl,hb⟩
 refine ⟨?_,hb⟩
 rw [show (⟨#[b]⟩:ByteArray).data.toList = [b] from rfl,h]
end Go.Proofs.YtldhpaflmnlcaaaGreatDoor
