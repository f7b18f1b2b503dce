/-
  The texts of acts, the reference's. Own work.
-/
import Derived.Test.YtbljmfcifljkaaaGreatDoorUAT
import Derived.Deep.RegionWith
import Derived.Test.YtbljmfcifljkaaaGreatDoorUAxRu
import Derived.Test.YtbljmfcifljkaaaGreatDoorUSX
set_option linter.all false
set_option maxRecDepth 100000
set_option maxHeartbeats 8000000
namespace Go.Proofs.YtbljmfcifljkaaaGreatDoor
open Go.RowKit
set_option maxRecDepth 100000
set_option maxHeartbeats 4000000
theorem snWords_any (w:World):Calls Tryz.prog 120 #[] w fun e w'=>∃ n:Nat,e=.returned (.slice (some ⟨w.heap.size,0,none⟩) n n)∧n=7∧(∀ k,k<7 → w'.cell? ⟨w.heap.size,k,none⟩=some (.string (acWord k)))∧Below w.heap.size w w'∧w.heap.size<w'.heap.size:=by
 go_enter Tryz.func120,Tryz.ntmps120
 go_wp2
 go_ret
 refine ⟨7,rfl,rfl,fun k hk=>?_,alloc_below _ _,by simp⟩
 match k,hk with
 | 0,_=>exact (Bk.new w _ _).cell.1 0
 | 1,_=>exact (Bk.new w _ _).cell.1 1
 | 2,_=>exact (Bk.new w _ _).cell.1 2
 | 3,_=>exact (Bk.new w _ _).cell.1 3
 | 4,_=>exact (Bk.new w _ _).cell.1 4
 | 5,_=>exact (Bk.new w _ _).cell.1 5
 | 6,_=>exact (Bk.new w _ _).cell.1 6
theorem RusSP.q {L:List Rul} {w w':World} {e:Ending} (h:RusSP L w e w'):RusQ L w e w':=by
 obtain ⟨v,xs,h1,h2,h3,h4⟩:=h
 refine ⟨v,h1,?_,h4⟩
 rw [← h2];exact h3.at
end Go.Proofs.YtbljmfcifljkaaaGreatDoor
/-
  The reference's ActText. Own work.
-/
namespace Go.Proofs.YtbljmfcifljkaaaGreatDoor
open Go.RowKit
set_option maxRecDepth 100000
set_option maxHeartbeats 4000000
end Go.Proofs.YtbljmfcifljkaaaGreatDoor
