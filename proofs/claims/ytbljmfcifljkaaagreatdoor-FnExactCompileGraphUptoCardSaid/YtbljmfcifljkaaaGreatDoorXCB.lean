/-
  The laws' copies of their arguments: new memory that reads as the argument does. Own work.
-/
import Derived.Test.YtbljmfcifljkaaaGreatDoorProg
import Derived.Test.YtbljmfcifljkaaaGreatDoorXAA
import Derived.WalkLawsBesides
import Derived.WalkSpells
import Derived.Test.YtbljmfcifljkaaaGreatDoorXAC
import Derived.StillTailTactics
import Derived.WalkKit
import Derived.Deep.QuietTactic
import Derived.BigQuiet
import Derived.Deep.RegionWith
import Derived.Maps.Own
import Derived.Maps.OwnOps
import Derived.Maps.OwnSet
import Derived.Test.YtbljmfcifljkaaaGreatDoorXAB
import Derived.Maps.AppendAt
set_option linter.all false
set_option maxRecDepth 100000
set_option maxHeartbeats 8000000
namespace Go.Proofs.YtbljmfcifljkaaaGreatDoor
open Go.RowKit
end Go.Proofs.YtbljmfcifljkaaaGreatDoor
/-
  Walks of the functions on names and on finding definitions. Own work.
-/
namespace Go.Proofs.YtbljmfcifljkaaaGreatDoor
open Go.RowKit
def reserved:List ByteArray:=[⟨#[105,100]⟩,⟨#[115,119,97,112]⟩,⟨#[99,111,112,121]⟩,⟨#[100,105,115,99,97,114,100]⟩,⟨#[97,100,100]⟩,⟨#[122,101,114,111]⟩,⟨#[115,99,97,108,101]⟩,⟨#[100,101,108,97,121]⟩,
 ⟨#[99,111,99,111,112,121]⟩,⟨#[99,111,100,105,115,99,97,114,100]⟩,⟨#[99,111,97,100,100]⟩,⟨#[99,111,122,101,114,111]⟩,⟨#[99,111,115,99,97,108,101]⟩,⟨#[99,111,100,101,108,97,121]⟩]
def kwords:List ByteArray:=⟨#[]⟩ :: reserved
def StrsAt (w:World) (v:Value) (ss:List ByteArray):Prop:=SlAt 1 v ss.length fun i b o=>∃ h:i<ss.length,w.cell? ⟨b,o,none⟩=some (.string ss[i])
theorem StrsAt.keep {w w':World} (hb:Below w.heap.size w w') {v:Value} {ns:List ByteArray} (h:StrsAt w v ns):StrsAt w' v ns :=
 SlAt.mono h fun _ _ _ ⟨hi,r⟩=>⟨hi,cell_keep hb r⟩
def wordFrom (s:ByteArray) (d:Int):List ByteArray → Nat → Int
 | [],_=>d
 | x :: r,k=>if x=s then k else wordFrom s d r (k+1)
def kindOfW (s:ByteArray):Int:=wordFrom s 17 kwords 0
def lodB (b:UInt8):Bool:=lowB b || digB b
def restB (s:ByteArray) (k:Nat):Bool:=(s.data.toList.drop k).all lodB
def wordB (s:ByteArray):Bool:=if h:1≤s.size∧s.size≤8 then lowB (s[0]'(by omega)) && restB s 1 else false
def nameB (s:ByteArray):Bool:=wordB s && decide (kindOfW s=17)
end Go.Proofs.YtbljmfcifljkaaaGreatDoor
/-
  Walks: a text among texts, words, names, finding a definition. Own work.
-/
namespace Go.Proofs.YtbljmfcifljkaaaGreatDoor
open Go.RowKit
end Go.Proofs.YtbljmfcifljkaaaGreatDoor
/-
  Small tools for regions that draw their order. Own work.
-/
namespace Go.Proofs.YtbljmfcifljkaaaGreatDoor
end Go.Proofs.YtbljmfcifljkaaaGreatDoor
/-
  The walk of leafWires. Own work.
-/
namespace Go.Proofs.YtbljmfcifljkaaaGreatDoor
open Go.RowKit
def leafRes (n:Nd):W2 × Bool :=
 if n.name ≠ ByteArray.empty then ((0,0),false) else if n.kind=1 then ((n.value,n.value),inB n.value 0 12) else if n.kind=2 then ((2,2),n.value == 0)
 else if 3≤n.kind∧n.kind≤14 then (kindW n.kind,genValB n.kind n.value) else ((0,0),false)
end Go.Proofs.YtbljmfcifljkaaaGreatDoor
/-
  The types of leaves in a library: the map that typingIn makes, and its closure. Own work.
-/
namespace Go.Proofs.YtbljmfcifljkaaaGreatDoor
open Go.RowKit Go.Maps
def wd (a b:Int):DataW Unit:=.agg [.lit (.int .i64 a),.lit (.int .i64 b)]
def wiresR (v:Value):Option (DataW Unit × List MemPlace) :=
 match v with
 | .agg cs=>(match cs.toList with
  | [.int .i64 a,.int .i64 b]=>some (wd a b,[])
  | _=>none)
 | _=>none
def keyL (s:ByteArray):Lit:=.string s.data.toList
def mapOf (L:List Df):DataW Unit:=L.foldl (fun m d=>m.put (keyL d.name) (wd d.inn d.out)) (.map [])
def lastD (L:List Df) (s:ByteArray):Option Df:=L.reverse.find? fun d=>decide (d.name=s)
def TypMap (w:World) (b:Nat) (L:List Df):Prop:=w.ownsMap Tryz.prog 9 wiresR b L.length (mapOf L)
def Typer (w:World) (bc:Nat) (L:List Df):Prop:=∃ bm,w.cell? ⟨bc,0,none⟩=some (.map (some bm))∧TypMap w bm L
theorem TypMap.keep {w w':World} (hb:Below w.heap.size w w') {b:Nat} {L:List Df} (h:TypMap w b L):TypMap w' b L:=by
 have hlt:=World.ownsMap.lt h
 obtain ⟨es,clock,h1,h2⟩:=h
 exact ⟨es,clock,(hb.block b hlt).trans h1,h2⟩
theorem Typer.keep {w w':World} (hb:Below w.heap.size w w') {b:Nat} {L:List Df} (h:Typer w b L):Typer w' b L:=by
 obtain ⟨bm,h1,h2⟩:=h
 exact ⟨bm,cell_keep hb h1,h2.keep hb⟩
def typRes (L:List Df) (n:Nd):W2 × Bool :=
 if n.kind=17 then (((lastD L n.name).map fun d=>(d.inn,d.out)).getD (0,0),(lastD L n.name).isSome && (n.value == 0)) else leafRes n
end Go.Proofs.YtbljmfcifljkaaaGreatDoor
/-
  Append of one number to an own row. Own work.
-/
namespace Go.Proofs.YtbljmfcifljkaaaGreatDoor
open Go.RowKit
theorem infoInt:(Tryz.prog.info? 3).map (fun i=>(i.zero,i.size,i.bytes))=some (some (.int .i64 0),1,8):=by kernel_rfl
end Go.Proofs.YtbljmfcifljkaaaGreatDoor
