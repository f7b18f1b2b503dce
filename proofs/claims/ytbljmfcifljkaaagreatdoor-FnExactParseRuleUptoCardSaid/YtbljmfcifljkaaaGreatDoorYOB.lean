/-
  FOR A PROOF OF AN '..UptoSaid': WHAT THE BOUND GIVES. Copy it as <Name>Bulk.lean (put your seat's Name for YtbljmfcifljkaaaGreatDoor, the bound of 'uptoSmall' for 1048576), name it in GOCLAIM.json's 'order' behind <Name>Rows. By an AI agent, Sun Nov 15 2026. No person has read it. No macro, syntax, notation, axiom, sorry.
-/
import Derived.Test.YtbljmfcifljkaaaGreatDoorRows
import Derived.Test.YtbljmfcifljkaaaGreatDoorYA
import Derived.Test.YtbljmfcifljkaaaGreatDoorProg
import Derived.Deep.Slices
import Derived.Deep.Strs
import Derived.OpenShut
import Derived.KernelRfl
import Derived.Test.YtbljmfcifljkaaaGreatDoorYSA
import Derived.Test.YtbljmfcifljkaaaGreatDoorYZ
import Derived.Test.YtbljmfcifljkaaaGreatDoorYFL
import Derived.Stop.LaidErr
import Derived.Lib.LaidTab
import Derived.ChangeVars
import Derived.ChangeOld
import Derived.WalkKit
import Derived.ProofKit
import Derived.Lib.LaidIn
set_option linter.all false
set_option maxRecDepth 100000
set_option maxHeartbeats 8000000
namespace Go.Proofs.YtbljmfcifljkaaaGreatDoor.bulks
theorem one_le {H:Type} (d:DataW H):1≤Rows.uptoBulk d:=by
 cases d with
 | lit l=>cases l <;> simp [Rows.uptoBulk]
 | nil=>simp [Rows.uptoBulk]
 | ptr d=>simp [Rows.uptoBulk]
 | slice elems spare=>simp [Rows.uptoBulk]
 | agg parts=>simp [Rows.uptoBulk]
 | iface t d=>simp [Rows.uptoBulk]
 | map entries=>simp [Rows.uptoBulk]
 | held h=>simp [Rows.uptoBulk]
theorem append {H:Type} (l r:List (DataW H)):Rows.uptoBulkAll (l ++ r)=Rows.uptoBulkAll l+Rows.uptoBulkAll r:=by
 induction l with
 | nil=>simp [Rows.uptoBulkAll]
 | cons x l ih=>simp only [List.cons_append,Rows.uptoBulkAll,ih];omega
theorem length_le {H:Type} (l:List (DataW H)):l.length≤Rows.uptoBulkAll l:=by
 induction l with
 | nil=>simp [Rows.uptoBulkAll]
 | cons x r ih=>have:=one_le x;simp only [Rows.uptoBulkAll,List.length_cons];omega
theorem bound {H:Type} {l:List (DataW H)} (hk:Rows.uptoSmall H l=true):Rows.uptoBulkAll l≤1048576:=by
 simpa [Rows.uptoSmall] using hk
end Go.Proofs.YtbljmfcifljkaaaGreatDoor.bulks
/-
  The drawn arguments, opened: nodes, terms, definitions, entries. Own work.
-/
namespace Go.Proofs.YtbljmfcifljkaaaGreatDoor
open Go.ChangeShapes Go.WideShapes Go.Deep
section
variable {H:Type} {enc:TypeId × Value → H} {w:World} {base:Nat} {spare:Nat → Bool} {held:Bool}
end
end Go.Proofs.YtbljmfcifljkaaaGreatDoor
/-
  A drawn session, opened: edges, graphs, sessions. Own work.
-/
namespace Go.Proofs.YtbljmfcifljkaaaGreatDoor
open Go.ChangeShapes Go.WideShapes Go.Deep
section
variable {H:Type} {enc:TypeId × Value → H} {w:World} {base:Nat} {spare:Nat → Bool} {held:Bool}
structure EdN (n:Nat) (e:EdI):Prop where
 inn:e.ins.length≤n
 out:e.outs.length≤n
structure GrN (n:Nat) (g:GrI):Prop where
 ed:g.edges.length≤n
 eds:∀ e ∈ g.edges,EdN n e
 inn:g.ins.length≤n
 out:g.outs.length≤n
theorem EdN.mono {n m:Nat} {e:EdI} (h:EdN n e) (hm:n≤m):EdN m e:=⟨Nat.le_trans h.1 hm,Nat.le_trans h.2 hm⟩
theorem GrN.mono {n m:Nat} {g:GrI} (h:GrN n g) (hm:n≤m):GrN m g:=⟨Nat.le_trans h.1 hm,fun e he=>(h.2 e he).mono hm,Nat.le_trans h.3 hm,Nat.le_trans h.4 hm⟩
theorem GrN.ok {n:Nat} {g:GrI} (h:GrN n g) (hn:n≤1048576):GrOk g:=⟨Nat.le_trans h.1 hn,fun e he=>⟨Nat.le_trans (h.2 e he).1 hn,Nat.le_trans (h.2 e he).2 hn⟩,Nat.le_trans h.3 hn,Nat.le_trans h.4 hn⟩
instance:Inhabited EdI:=⟨⟨0,0,[],[]⟩⟩
instance:Inhabited GrI:=⟨⟨0,[],[],[]⟩⟩
end
end Go.Proofs.YtbljmfcifljkaaaGreatDoor
/-
  A law's row that names a table variable: what it reads as before and behind the call; the table of the smallest primes. Own work.
-/
namespace Go.Proofs.YtbljmfcifljkaaaGreatDoor
open Go.ChangeShapes Go.WideShapes Go.ChangeAt Go.RowKit
end Go.Proofs.YtbljmfcifljkaaaGreatDoor
/-
  A world for AxiomsOf's witness: as LaidW's, with the table of the smallest primes laid too. Own work.
-/
namespace Go.Proofs.YtbljmfcifljkaaaGreatDoor
open Go.ChangeShapes Go.WideShapes Go.ChangeAt Go.RowKit
def tab32:List Int:=[0,1,28,2,29,14,24,3,30,22,20,15,25,17,4,8,31,27,13,23,21,19,16,7,26,12,18,6,11,5,10,9]
def tab64:List Int:=[0,1,56,2,57,49,28,3,61,58,42,50,38,29,17,4,62,47,59,36,45,43,51,22,53,39,33,30,24,18,12,5,63,55,48,27,60,41,37,16,46,35,44,21,52,32,23,11,54,26,40,15,34,20,31,10,25,14,19,9,13,8,7,6]
def tabPow:List Int:=[1,10,100,1000,10000,100000,1000000,10000000,100000000,1000000000,10000000000,100000000000,1000000000000,10000000000000,100000000000000,1000000000000000,10000000000000000,100000000000000000,1000000000000000000,10000000000000000000]
def txtRange:ByteArray:=⟨#[118,97,108,117,101,32,111,117,116,32,111,102,32,114,97,110,103,101]⟩
def txtSyntax:ByteArray:=⟨#[105,110,118,97,108,105,100,32,115,121,110,116,97,120]⟩
noncomputable def laidWorld (os:Os):World :=
 let N:=(World.settled Tryz.prog os).heap.size
 let w0:=World.holding Tryz.prog os ⟨#[.cells #[.string txtRange] 390,.cells #[.string txtSyntax] 390],#[],[]⟩
 let put (h:Array Obj) (g:Nat) (cs:Array Value):Array Obj:=h.modify g fun
  | .cells _ t frozen=>.cells cs t frozen
  | o=>o
 let h1:=put w0.heap 7 (tab32.map fun z=>Value.int .u8 z).toArray
 let h2:=put h1 8 (tab64.map fun z=>Value.int .u8 z).toArray
 let h3:=put h2 3 (tabPow.map fun z=>Value.int .u64 z).toArray
 let h4:=put h3 2 #[.iface 388 (.pointer (some ⟨N,0,none⟩))]
 let h5:=put h4 1 #[.iface 388 (.pointer (some ⟨N+1,0,none⟩))]
 let h6:=put h5 0 #[.int .i64 2,.int .i64 3,.int .i64 5,.int .i64 7]
 { w0 with heap:=h6 }
end Go.Proofs.YtbljmfcifljkaaaGreatDoor
/-
  A world for ParseAct's witness: as LaidA's, with the tables of utf8 laid too. Own work.
-/
namespace Go.Proofs.YtbljmfcifljkaaaGreatDoor
open Go.ChangeShapes Go.WideShapes Go.ChangeAt Go.RowKit
end Go.Proofs.YtbljmfcifljkaaaGreatDoor
