/-
  The reference's small terms: one leaf, joins, chains, rules. Own work; printed by wip/parTmC.py.
-/
import Derived.Test.YtbljmfcifljkaaaGreatDoorYG
import Derived.Test.YtbljmfcifljkaaaGreatDoorYE
import Derived.Test.YtbljmfcifljkaaaGreatDoorYRU
import Derived.Laws.OwnMore
import Derived.Test.YtbljmfcifljkaaaGreatDoorYFL
import Derived.Test.YtbljmfcifljkaaaGreatDoorYAX
set_option linter.all false
set_option maxRecDepth 100000
set_option maxHeartbeats 8000000
namespace Go.Proofs.YtbljmfcifljkaaaGreatDoor
open Go.RowKit
def TmsAt (w:World) (g:Nat) (L:List (Value × List Nd)):Prop:=∀ j,∀ h:j<L.length,w.cell? ⟨g,j,none⟩=some (L[j]'h).1∧NdsAt w (L[j]'h).1 (L[j]'h).2
theorem TmsAt.keep {w w':World} {g:Nat} {L:List (Value × List Nd)} (h:TmsAt w g L) (hb:Below w.heap.size w w'):TmsAt w' g L:=fun j hj=>⟨cell_keep hb (h j hj).1,(h j hj).2.keep hb⟩
end Go.Proofs.YtbljmfcifljkaaaGreatDoor
/-
  The reference's small functions: fdMul fdAdd fdTwo tmTop tmMirrorKind. Own work.
-/
namespace Go.Proofs.YtbljmfcifljkaaaGreatDoor
open Go.RowKit
set_option maxRecDepth 100000
set_option maxHeartbeats 4000000
theorem tmTop_any (v:Value) (ns:List Nd) (n:Nd) (w:World) (hv:NdsAt w v (ns ++ [n])) (hl:ns.length≤100000):Calls Tryz.prog 158 #[.agg #[v]] w fun e w'=>e=.returned (.int .i64 n.kind)∧Below w.heap.size w w':=by
 obtain ⟨a,cap,rfl,hc,hat⟩:=hv
 have hln:(ns ++ [n]).length=ns.length+1:=by simp
 obtain ⟨b,o,rfl,hlt,n0,n1,n2⟩:=hat ns.length (by rw [hln];omega)
 have e9:(ns ++ [n])[ns.length]'hlt=n:=by simp
 rw [e9] at n0
 rw [hln]
 have e1:IntKind.i64.wrap ((ns.length:Int)+1 - 1)=(ns.length:Int):=by rw [show (ns.length:Int)+1 - 1=(ns.length:Int) by omega];exact IntWalk.i64_in _ (by omega)
 have hz:=cell_lt n0
 clear hat hln e9 hc n1 n2 hlt
 go_enter Tryz.func158,Tryz.ntmps158
 go_wp2
 go_ret
 exact ⟨rfl,alloc_below _ _⟩
end Go.Proofs.YtbljmfcifljkaaaGreatDoor
