/-
  Fields and their elements: both sides' tests. Own work.
-/
import Derived.Test.YtbljmfcifljkaaaGreatDoorYC
set_option linter.all false
set_option maxRecDepth 100000
set_option maxHeartbeats 8000000
namespace Go.Proofs.YtbljmfcifljkaaaGreatDoor
open Go.RowKit
def PrimeTab (w:World):Prop :=
 w.cell? ⟨0,0,none⟩=some (.int .i64 2)∧w.cell? ⟨0,1,none⟩=some (.int .i64 3)∧w.cell? ⟨0,2,none⟩=some (.int .i64 5)∧w.cell? ⟨0,3,none⟩=some (.int .i64 7)
theorem PrimeTab.keep {w w':World} (hb:Below w.heap.size w w') (h:PrimeTab w):PrimeTab w' :=
 ⟨cell_keep hb h.1,cell_keep hb h.2.1,cell_keep hb h.2.2.1,cell_keep hb h.2.2.2⟩
def FlP (b:Bool) (w:World) (e:Ending) (w':World):Prop:=e=.returned (.bool b)∧Below w.heap.size w w'
end Go.Proofs.YtbljmfcifljkaaaGreatDoor
/-
  Elements of fields, the program's and the reference's. Own work.
-/
namespace Go.Proofs.YtbljmfcifljkaaaGreatDoor
open Go.RowKit
set_option maxRecDepth 100000
set_option maxHeartbeats 2000000
def IntsAt (w:World) (v:Value) (zs:List Int):Prop:=SlAt 1 v zs.length fun i b o=>∃ h:i<zs.length,w.cell? ⟨b,o,none⟩=some (.int .i64 zs[i])
theorem IntsAt.keep {w w':World} (hb:Below w.heap.size w w') {v:Value} {zs:List Int} (h:IntsAt w v zs):IntsAt w' v zs :=
 SlAt.mono h fun _ _ _ ⟨hi,r⟩=>⟨hi,cell_keep hb r⟩
end Go.Proofs.YtbljmfcifljkaaaGreatDoor
