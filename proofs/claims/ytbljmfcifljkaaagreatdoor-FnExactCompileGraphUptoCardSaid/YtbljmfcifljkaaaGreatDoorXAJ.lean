/-
  Libraries without a program in sight: good ones, unique names, types of terms. Own work.
-/
import Derived.Test.YtbljmfcifljkaaaGreatDoorXAI
import Derived.Test.YtbljmfcifljkaaaGreatDoorXCB
import Derived.Lib.ItoaNum
import Derived.Lib.Atoi
import Derived.Lib.IndexMore
import Derived.Test.YtbljmfcifljkaaaGreatDoorXAC
import Derived.Test.YtbljmfcifljkaaaGreatDoorProg
import Derived.Test.YtbljmfcifljkaaaGreatDoorXAA
import Derived.WalkLawsBesides
import Derived.WalkSpells
import Derived.Test.YtbljmfcifljkaaaGreatDoorXAB
import Derived.Tactics
import Derived.Tactics2
import Derived.Defers
import Derived.Laws.Pointers
import Derived.Laws.LoneSync
import Derived.RegionTactic
import Derived.RegionCalls
import Derived.Laws.NewBlocks
import Derived.Deep.WholeRow
import Derived.Lib.AppendIntMem
import Derived.Test.YtbljmfcifljkaaaGreatDoorXAF
import Derived.Lib.AppendZeros
import Derived.Lib.AppendZerosOnto
import Derived.KernelRfl
set_option linter.all false
set_option maxRecDepth 100000
set_option maxHeartbeats 8000000
namespace Go.Proofs.YtbljmfcifljkaaaGreatDoor
open Go.RowKit
def goodAt (L:List Df) (d:Df):Bool:=decide (typedL (leafIn L) d.body=some (d.inn,d.out)) && nameB d.name && (findD L d.name).isNone
def goodGo:List Df → List Df → Bool
 | _,[]=>true
 | P,d :: r=>goodAt P d && goodGo (P ++ [d]) r
def good (L:List Df):Bool:=decide (L.length≤12) && goodGo [] L
end Go.Proofs.YtbljmfcifljkaaaGreatDoor
/-
  Libraries and entries without a program in sight: what adding, removing, renaming and applying come to. Own work.
-/
namespace Go.Proofs.YtbljmfcifljkaaaGreatDoor
open Go.RowKit
def okL (L:List Df):Option (List Df):=if good L then some L else none
def addL (L:List Df) (d:Df):Option (List Df):=if good L then okL (L ++ [d]) else none
def remL (L:List Df) (s:ByteArray):Option (List Df):=if good L=true∧0≤findFrom s L 0 then okL (L.eraseIdx (findFrom s L 0).toNat) else none
def renN (a b:ByteArray) (n:Nd):Nd:=if n.kind=17∧n.name=a then ⟨n.kind,n.value,b⟩ else n
def renD (a b:ByteArray) (d:Df):Df:=⟨if d.name=a then b else d.name,d.inn,d.out,d.body.map (renN a b)⟩
def renL (L:List Df) (a b:ByteArray):Option (List Df):=if good L=true∧0≤findFrom a L 0 then okL (L.map (renD a b)) else none
def joD (L:List Df) (e:En):Df:=⟨e.name,((typedL (leafIn L) e.body).getD (0,0)).1,((typedL (leafIn L) e.body).getD (0,0)).2,e.body⟩
def plainE (e:En):Bool:=(decide (e.kind=3) || decide (e.to=ByteArray.empty)) && (decide (e.kind=1) || decide (e.body=[]))
def applyE (L:List Df) (e:En):Option (List Df) :=
 if good L=true∧plainE e=true then
  (if e.kind=1 then addL L (joD L e) else if e.kind=2 then remL L e.name else if e.kind=3 then renL L e.name e.to else none)
 else none
end Go.Proofs.YtbljmfcifljkaaaGreatDoor
/-
  Trees of nodes and their texts, no program in sight. Own work.
-/
namespace Go.Proofs.YtbljmfcifljkaaaGreatDoor
open Go.RowKit
inductive Tr where
 | leaf (n:Nd)
 | seq (a b:Tr)
 | par (a b:Tr)
def Tr.isSeq:Tr → Bool
 | .seq _ _=>true
 | _=>false
def Tr.isPar:Tr → Bool
 | .par _ _=>true
 | _=>false
def Tr.count:Tr → Nat
 | .leaf _=>1
 | .seq a b=>a.count+b.count+1
 | .par a b=>a.count+b.count+1
def treesGo:List Nd → List Tr → Option (List Tr)
 | [],st=>some st
 | n :: r,st =>
  if n.kind=15 then
   (match st with
   | b :: a :: st'=>treesGo r (.seq a b :: st')
   | _=>none)
  else if n.kind=16 then
   (match st with
   | b :: a :: st'=>treesGo r (.par a b :: st')
   | _=>none)
  else treesGo r (.leaf n :: st)
def bOpen:ByteArray:=⟨#[40]⟩
def bShut:ByteArray:=⟨#[41]⟩
def bSeq:ByteArray:=⟨#[32,59,32]⟩
def bPar:ByteArray:=⟨#[32,42,32]⟩
def bSp:ByteArray:=⟨#[32]⟩
def bEq:ByteArray:=⟨#[32,61,32]⟩
def numT (v:Int):ByteArray:=⟨(Lib.decDigits v.toNat).toArray⟩
def word (k:Int):ByteArray:=kwords.getD k.toNat ⟨#[]⟩
def leafTxt (n:Nd):ByteArray:=if n.kind=17 then n.name else if n.kind=1∨n.kind=7∨n.kind=13 then word n.kind ++ bSp ++ numT n.value else word n.kind
def brk (s:ByteArray) (b:Bool):ByteArray:=if b then bOpen ++ s ++ bShut else s
def prT (full:Bool):Tr → ByteArray
 | .leaf n=>leafTxt n
 | .seq a b=>brk (prT full a) (full && (a.isSeq || a.isPar)) ++ bSeq ++ brk (prT full b) (b.isSeq || full && b.isPar)
 | .par a b=>brk (prT full a) (a.isSeq || full && a.isPar) ++ bPar ++ brk (prT full b) (b.isSeq || b.isPar)
def treeL (ns:List Nd):Tr:=((treesGo ns []).getD []).headD (.leaf ⟨0,0,⟨#[]⟩⟩)
def bLet:ByteArray:=⟨#[108,101,116,32]⟩
def bDrop:ByteArray:=⟨#[100,114,111,112,32]⟩
def bName:ByteArray:=⟨#[110,97,109,101,32]⟩
def txtE (e:En):ByteArray :=
 if e.kind=1 then bLet ++ (e.name ++ bEq ++ prT false (treeL e.body)) else if e.kind=2 then bDrop ++ e.name else bName ++ (e.name ++ bSp ++ e.to)
def chk:List UInt8 → Int → Int
 | [],n=>n
 | b :: r,n=>chk r ((131 * n+b.toNat+1) % 65521)
def chkT (s:ByteArray):Int:=chk s.data.toList 7
def bHash:ByteArray:=⟨#[32,35]⟩
def bNl:ByteArray:=⟨#[10]⟩
def recT (s:ByteArray):ByteArray:=s ++ bHash ++ numT (chkT s) ++ bNl
def journ:List Df → ByteArray → List En → Option ByteArray
 | _,out,[]=>some out
 | L,out,e :: r =>
  match applyE L e with
  | none=>none
  | some R=>journ R (out ++ recT (txtE e)) r
def journal (es:List En):Option ByteArray :=
 if es.length≤60 then
  (match journ [] ⟨#[]⟩ es with
  | some s=>if s.size≤60000 then some s else none
  | none=>none)
 else none
end Go.Proofs.YtbljmfcifljkaaaGreatDoor
/-
  The program's tokenize. Own work.
-/
namespace Go.Proofs.YtbljmfcifljkaaaGreatDoor
open Go.RowKit
section
variable {s:ByteArray} {k:Nat}
end
end Go.Proofs.YtbljmfcifljkaaaGreatDoor
/-
  The reference's l1Read at strings of digits; numerals read. Own work.
-/
namespace Go.Proofs.YtbljmfcifljkaaaGreatDoor
open Go.RowKit
def Digs (s:ByteArray):Prop:=∀ i (h:i<s.size),digB s[i]=true
def rdOk (s:ByteArray):Bool:=decide (s.size≤6) && !(decide (1<s.size) && decide ((s.data.toList.headD 0)=48))
def rdV (s:ByteArray):Int:=if rdOk s then numV s else -1
end Go.Proofs.YtbljmfcifljkaaaGreatDoor
/-
  The reference's sxTokens. Own work.
-/
namespace Go.Proofs.YtbljmfcifljkaaaGreatDoor
open Go.RowKit
end Go.Proofs.YtbljmfcifljkaaaGreatDoor
/-
  What the tokens of a text are like. Own work.
-/
namespace Go.Proofs.YtbljmfcifljkaaaGreatDoor
open Go.RowKit
structure TokOk (t:Tk):Prop where
 size:t.text.size≤40000
 word:t.kind=1 → 1≤t.text.size
 num:t.kind=2 → Digs t.text∧1≤t.text.size∧t.text.size≤6∧rdV t.text=numV t.text
def TksOk (ts:List Tk):Prop:=∀ t ∈ ts,TokOk t
theorem TksOk.drop {ts:List Tk} (h:TksOk ts) (n:Nat):TksOk (ts.drop n):=fun x hx=>h x (List.mem_of_mem_drop hx)
end Go.Proofs.YtbljmfcifljkaaaGreatDoor
/-
  What a reading leaves behind: nodes in their order, a rest of the tokens. No program in sight. Own work.
-/
namespace Go.Proofs.YtbljmfcifljkaaaGreatDoor
open Go.RowKit
end Go.Proofs.YtbljmfcifljkaaaGreatDoor
/-
  The check of nodes that have been read, and readings of texts as plain functions. No program in sight. Own work.
-/
namespace Go.Proofs.YtbljmfcifljkaaaGreatDoor
open Go.RowKit
section
variable {leaf:Nd → Option W2} {x:Nd × Int} {r:Rd} {i:Nat} {st:List W2}
end
end Go.Proofs.YtbljmfcifljkaaaGreatDoor
/-
  Libraries read from their texts. No program in sight. Own work.
-/
namespace Go.Proofs.YtbljmfcifljkaaaGreatDoor
open Go.RowKit
end Go.Proofs.YtbljmfcifljkaaaGreatDoor
/-
  Tokens of a list of bytes, without their places; tokens of a printed tree. No program in sight. Own work.
-/
namespace Go.Proofs.YtbljmfcifljkaaaGreatDoor
end Go.Proofs.YtbljmfcifljkaaaGreatDoor
/-
  A printed tree is read back. No program in sight. Own work.
-/
namespace Go.Proofs.YtbljmfcifljkaaaGreatDoor
def Tr.nodes:Tr → List Nd
 | .leaf n=>[n]
 | .seq a b=>a.nodes ++ b.nodes ++ [⟨15,0,⟨#[]⟩⟩]
 | .par a b=>a.nodes ++ b.nodes ++ [⟨16,0,⟨#[]⟩⟩]
def LeafGood (n:Nd):Prop:=(n.kind=17∧n.value=0∧nameB n.name=true)∨leafB n=true
def Tr.Good:Tr → Prop
 | .leaf n=>LeafGood n
 | .seq a b=>a.Good∧b.Good
 | .par a b=>a.Good∧b.Good
def goodW (x:ByteArray):Bool:=match x.data.toList with
 | b :: w=>lowB b && w.all lodB
 | []=>false
theorem nameB_good {s:ByteArray} (h:nameB s=true):goodW s=true∧kindOfW s=17:=by
 unfold nameB at h
 simp only [Bool.and_eq_true,decide_eq_true_eq] at h
 refine ⟨?_,h.2⟩
 have h1:=h.1
 unfold wordB at h1
 split at h1
 ·rename_i hs
  simp only [Bool.and_eq_true] at h1
  have e:s.data.toList=s[0]'(by omega) :: s.data.toList.drop 1:=by
   have:=List.drop_eq_getElem_cons (l:=s.data.toList) (i:=0) (by simp;omega)
   rw [List.drop_zero] at this
   exact this
  unfold goodW
  rw [e]
  simp only [Bool.and_eq_true]
  exact ⟨h1.1,h1.2⟩
 ·cases h1
theorem LeafGood.cases {n:Nd} (h:LeafGood n):(n.kind=17∧n=⟨17,0,n.name⟩∧goodW n.name=true∧kindOfW n.name=17) ∨
  ((n.kind=1∨n.kind=7∨n.kind=13)∧n=⟨n.kind,n.value,⟨#[]⟩⟩∧0≤n.value∧n.value≤96)∨(1≤n.kind∧n.kind≤14∧¬ (n.kind=1∨n.kind=7∨n.kind=13)∧n=⟨n.kind,0,⟨#[]⟩⟩):=by
 obtain ⟨k,v,nm⟩:=n
 rcases h with ⟨h1,h2,h3⟩|h
 ·simp only at h1 h2 h3
  subst h1 h2
  exact .inl ⟨rfl,rfl,nameB_good h3⟩
 ·simp only [leafB,Bool.and_eq_true,decide_eq_true_eq] at h
  obtain ⟨⟨⟨h0,h1⟩,h2⟩,h3⟩:=h
  have hn:nm=⟨#[]⟩:=h0
  subst hn
  simp only at h1 h2 h3 ⊢
  split at h3
  ·simp only [Bool.and_eq_true,decide_eq_true_eq] at h3
   exact .inr (.inl ⟨by omega,by first|rfl|trivial,by omega,by omega⟩)
  ·split at h3
   ·simp only [Bool.and_eq_true,decide_eq_true_eq] at h3
    exact .inr (.inl ⟨by omega,by first|rfl|trivial,by omega,by omega⟩)
   ·simp only [decide_eq_true_eq] at h3
    subst h3
    exact .inr (.inr ⟨h1,h2,by omega,by first|rfl|trivial⟩)
end Go.Proofs.YtbljmfcifljkaaaGreatDoor
/-
  The tokens of a printed tree are parsed to its nodes. No program in sight. Own work.
-/
namespace Go.Proofs.YtbljmfcifljkaaaGreatDoor
end Go.Proofs.YtbljmfcifljkaaaGreatDoor
/-
  Entries read from their texts. No program in sight. Own work.
-/
namespace Go.Proofs.YtbljmfcifljkaaaGreatDoor
open Go.RowKit
def e0:En:=⟨0,⟨#[]⟩,⟨#[]⟩,[]⟩
end Go.Proofs.YtbljmfcifljkaaaGreatDoor
/-
  A printed term is read back as it was. No program in sight. Own work.
-/
namespace Go.Proofs.YtbljmfcifljkaaaGreatDoor
end Go.Proofs.YtbljmfcifljkaaaGreatDoor
/-
  The program's parser: its state, and its small methods. Own work.
-/
namespace Go.Proofs.YtbljmfcifljkaaaGreatDoor
open Go.RowKit
def TkAt (w:World) (t:Tk) (b o:Nat):Prop :=
 w.cell? ⟨b,o,none⟩=some (.int .i64 t.kind)∧w.cell? ⟨b,o+1,none⟩=some (.string t.text)∧w.cell? ⟨b,o+2,none⟩=some (.int .i64 t.pos)
def TksAt (w:World) (v:Value) (ts:List Tk):Prop:=TksOk ts∧SlAt 3 v ts.length fun i b o=>∃ h:i<ts.length,TkAt w ts[i] b o
theorem TkAt.keep {w w':World} (hb:Below w.heap.size w w') {t:Tk} {b o:Nat} (h:TkAt w t b o):TkAt w' t b o:=⟨cell_keep hb h.1,cell_keep hb h.2.1,cell_keep hb h.2.2⟩
theorem TksAt.keep {w w':World} (hb:Below w.heap.size w w') {v:Value} {ts:List Tk} (h:TksAt w v ts):TksAt w' v ts :=
 ⟨h.1,SlAt.mono h.2 fun _ _ _ ⟨hi,r⟩=>⟨hi,r.keep hb⟩⟩
def rdCells (x:Nd × Int):List Value:=[.int .i64 x.1.kind,.int .i64 x.1.value,.string x.1.name,.int .i64 x.2]
structure Fr (B br:Nat) (w w':World):Prop where
 os:w'.os=w.os
 tape:w'.tape=w.tape
 output:w'.output=w.output
 size:w.heap.size≤w'.heap.size
 block:∀ k,k<B → k ≠ br → w'.heap[k]?=w.heap[k]?
theorem Fr.refl (B br:Nat) (w:World):Fr B br w w:=⟨rfl,rfl,rfl,Nat.le_refl _,fun _ _ _=>rfl⟩
theorem Fr.trans {B br:Nat} {w w1 w2:World} (h:Fr B br w w1) (h':Fr B br w1 w2):Fr B br w w2 :=
 ⟨h'.os.trans h.os,h'.tape.trans h.tape,h'.output.trans h.output,Nat.le_trans h.size h'.size,fun k hk hn=>(h'.block k hk hn).trans (h.block k hk hn)⟩
theorem Fr.below {B br:Nat} {w w':World} (hB:B≤w.heap.size) (h:Below w.heap.size w w'):Fr B br w w' :=
 ⟨h.os,h.tape,h.output,h.size,fun k hk _=>h.block k (by omega)⟩
theorem Fr.exc {B br:Nat} {T:Nat → Prop} {w w':World} (hB:B≤w.heap.size) (h:Exc T w w') (hT:∀ k,T k → k=br∨B≤k):Fr B br w w' :=
 ⟨h.os,h.tape,h.output,h.size,fun k hk hn=>h.block k (by omega) (fun ht=>by rcases hT k ht with h1|h1;exact hn h1;omega)⟩
theorem Fr.cell {B br:Nat} {w w':World} (h:Fr B br w w') {b o:Nat} (hb:b<B) (hn:b ≠ br):w'.cell? ⟨b,o,none⟩=w.cell? ⟨b,o,none⟩:=World.cell?_of_block (w:=w) (h.block b hb hn)
def TkLow (B br:Nat) (v:Value):Prop:=∀ b o n c,v=.slice (some ⟨b,o,none⟩) n c → b<B∧b ≠ br
theorem TksAt.fr {B br:Nat} {w w':World} (h:Fr B br w w') {v:Value} {ts:List Tk} (hl:TkLow B br v) (ht:TksAt w v ts):TksAt w' v ts:=by
 obtain ⟨hok,a,cap,rfl,hc,hat⟩:=ht
 refine ⟨hok,a,cap,rfl,hc,fun i hi=>?_⟩
 obtain ⟨b,o,rfl,hi',h0,h1,h2⟩:=hat i hi
 obtain ⟨q1,q2⟩:=hl b o _ _ rfl
 exact ⟨b,o,rfl,hi',(h.cell q1 q2).trans h0,(h.cell q1 q2).trans h1,(h.cell q1 q2).trans h2⟩
structure ParV (B br:Nat) (en:Int) (w:World) (vt vo:Value) (ts:List Tk) (out:Rd):Prop where
 lt:br<B
 sz:B≤w.heap.size
 c0:w.cell? ⟨br,0,none⟩=some vt
 c1:w.cell? ⟨br,1,none⟩=some (.int .i64 en)
 c2:w.cell? ⟨br,2,none⟩=some vo
 fz:∀ i,w.frozen? ⟨br,i,none⟩=false
 tk:TksAt w vt ts
 low:TkLow B br vt
 own:w.ownsRow B 250 4 vo out.length (out.flatMap rdCells)
 nil:out=[] → vo=.slice none 0 0
def ParAt (B br:Nat) (en:Int) (w:World) (ts:List Tk) (out:Rd):Prop:=∃ vt vo,ParV B br en w vt vo ts out
end Go.Proofs.YtbljmfcifljkaaaGreatDoor
/-
  The program's parser: need, word. Own work.
-/
namespace Go.Proofs.YtbljmfcifljkaaaGreatDoor
open Go.RowKit
end Go.Proofs.YtbljmfcifljkaaaGreatDoor
/-
  The program's parser: what a part, a row, a term leaves behind. Own work.
-/
namespace Go.Proofs.YtbljmfcifljkaaaGreatDoor
open Go.RowKit
end Go.Proofs.YtbljmfcifljkaaaGreatDoor
/-
  The program's parser: chain, at a row. Own work.
-/
namespace Go.Proofs.YtbljmfcifljkaaaGreatDoor
open Go.RowKit
end Go.Proofs.YtbljmfcifljkaaaGreatDoor
/-
  The program's parser: chain, at a term. Own work.
-/
namespace Go.Proofs.YtbljmfcifljkaaaGreatDoor
open Go.RowKit
end Go.Proofs.YtbljmfcifljkaaaGreatDoor
/-
  The program's parser: row and term. Own work.
-/
namespace Go.Proofs.YtbljmfcifljkaaaGreatDoor
open Go.RowKit
end Go.Proofs.YtbljmfcifljkaaaGreatDoor
/-
  The program's parser: part, at a bracket. Own work.
-/
namespace Go.Proofs.YtbljmfcifljkaaaGreatDoor
open Go.RowKit
end Go.Proofs.YtbljmfcifljkaaaGreatDoor
/-
  The program's parser: part, where no word comes. Own work.
-/
namespace Go.Proofs.YtbljmfcifljkaaaGreatDoor
open Go.RowKit
end Go.Proofs.YtbljmfcifljkaaaGreatDoor
/-
  A drawn region in two stages: the operations of the second need all those of the first. Own work, over Acts.
-/
namespace Go.Proofs.YtbljmfcifljkaaaGreatDoor
open Go.RowKit
section
variable {P:Program} {ops:Array Oper} {C:World → Prop} {N:Nat} {Q:Exit → Act → World → Prop}
theorem WX_any2 {Q1:Exit → Act → World → Prop} (E:List Nat) (m:Nat) (hsel:NoSel ops) (hG:Grows C N) (f:Nat) (hrange:∀ (j:Nat) (oj:Oper),ops[j]?=some oj → ∀ e ∈ oj.after,Region.binds .any e=true → e.on<ops.size) (hself:∀ j,j<ops.size → Region.waitsFor .any ops j j=false) :
  ∀ (n:Nat) (l:List Nat) (listed:Array Bool) (bs:Nat → Prop) (a:Act) (w:World),l.length=n → (l.Pairwise fun i j=>pairB ops f i j=true) → (∀ i ∈ l,i<ops.size) → listed.size=ops.size →
   (∀ k,k<ops.size → (listed.getD k true=false ↔ (k ∈ l∨k ∈ E))) → (∀ e ∈ E,∀ i ∈ l,needsB ops f e i=true∧Region.waitsFor .any ops i e=false∧i ≠ e) → Closed ops listed → C w → (∀ k,bs k → k<w.heap.size) →
   (∀ (listed:Array Bool) (a:Act) (w:World),listed.size=ops.size → (∀ k,k<ops.size → (listed.getD k true=false ↔ k ∈ E)) → Closed ops listed → Q1 .normal a w → wpAny P .any ops Q m listed a w) →
   WX P ops C N Q1 l bs a w → wpAny P .any ops Q (n+m) listed a w:=by
 intro n
 induction n with
 | zero =>
  intro l listed bs a w hn _ _ hsz hun _ hcl _ _ hfin h
  have hl:l=[]:=List.eq_nil_of_length_eq_zero hn
  subst hl
  rw [Nat.zero_add]
  exact hfin listed a w hsz (fun k hk=>by rw [hun k hk];simp) hcl h
 | succ n ih =>
  intro l listed bs a w hn hp hin hsz hun hEn hcl hC hbs hfin h
  rw [Nat.add_right_comm]
  refine ⟨fun h0=>?_,fun j hj=>?_⟩
  ·-- the first operation of the walk is ready
   match l,hn with
   | i :: l,_ =>
    have hi:=hin i (List.mem_cons_self ..)
    have hi':ops[i]?=some ops[i]:=Array.getElem?_eq_getElem _
    have hr:i ∈ Region.ready .any ops listed:=by
     refine mem_ready.2 ⟨(hun i hi).2 (.inl (List.mem_cons_self ..)),_,hi',fun e he hb=>?_⟩
     have hes:=hrange i _ hi' e he hb
     have hw:Region.waitsFor .any ops i e.on=true:=by
      unfold Region.waitsFor;rw [hi']
      exact Array.any_eq_true'.2 ⟨e,he,by simp [hb]⟩
     have hnm:e.on ∉ i :: l:=by
      intro hm
      rcases List.mem_cons.1 hm with hm|hm
      ·rw [hm,hself i hi] at hw;cases hw
      ·have:=(List.pairwise_cons.1 hp).1 e.on hm
       simp [pairB,hw] at this
     have hes':e.on<listed.size:=by omega
     have hnE:e.on ∉ E:=fun hm=>by
      have:=(hEn e.on hm i (List.mem_cons_self ..)).2.1
      rw [hw] at this;cases this
     cases hg:listed.getD e.on false with
     | true=>rfl
     | false=>exact absurd ((hun e.on hes).1 (getD_in hes' hg)) (fun h=>h.elim hnm hnE)
    rw [h0] at hr
    cases hr
  ·obtain ⟨hjun,oj,hoj,hall⟩:=mem_ready.1 hj
   have hjs:j<ops.size:=(Array.getElem?_eq_some_iff.1 hoj).1
   have hjl:j ∈ l:=by
    rcases (hun j hjs).1 hjun with h1|h1
    ·exact h1
    ·match l,hn with
     | i :: l,_ =>
      have h2:=(hEn j h1 i (List.mem_cons_self ..)).1
      have h3:=needs_listed hcl f j i oj hoj hall h2
      have h4:=(hun i (hin i (List.mem_cons_self ..))).2 (.inl (List.mem_cons_self ..))
      rw [getD_both h4] at h3
      cases h3
   obtain ⟨s,t,rfl⟩:=List.append_of_mem hjl
   have hsl:s.length+t.length=n:=by simp at hn;omega
   have hpair:∀ i ∈ s,pairB ops f i j=true:=fun i hi=>(List.pairwise_append.1 hp).2.2 i hi j (List.mem_cons_self ..)
   have hins:∀ i ∈ s,i<ops.size:=fun i hi=>hin i (List.mem_append_left _ hi)
   have hno:∀ i ∈ s,needsB ops f j i=false:=fun i hi=>by
    cases hnb:needsB ops f j i with
    | false=>rfl
    | true =>
     have h1:=needs_listed hcl f j i oj hoj hall hnb
     have h2:=(hun i (hins i hi)).2 (.inl (List.mem_append_left _ hi))
     rw [getD_both h2] at h1
     cases h1
   have hsp:∀ i ∈ s,∀ oi,ops[i]?=some oi → oi.apart ops oj=true∧(opKind oj ≠ .act∨opKind oi=.still):=fun i hi oi hoi=>by
    have h1:=hpair i hi
    simp only [pairB,hno i hi,hoi,hoj,Bool.false_or,Bool.and_eq_true,Bool.or_eq_true,decide_eq_true_eq] at h1
    exact h1.2
   have hfr:∀ i ∈ s,Free ops i j:=fun i hi oi oj' hoi hoj'=>by
    obtain rfl:oj=oj':=Option.some.inj (hoj.symm.trans hoj')
    exact (hsp i hi oi hoi).1
   have hnd:j ∉ s ++ t:=by
    intro hm
    rcases List.mem_append.1 hm with hm|hm
    ·have:=hpair j hm;simp [pairB] at this
    ·have:=(List.pairwise_cons.1 (List.pairwise_append.1 hp).2.1).1 j hm;simp [pairB] at this
   have hjsz:j<listed.size:=by omega
   have next:∀ bs' a' w',C w' → (∀ k,bs' k → k<w'.heap.size) → WX P ops C N Q1 (s ++ t) bs' a' w' → wpAny P .any ops Q (n+m) (listed.setIfInBounds j true) a' w':=fun bs' a' w' hC' hb' h'=>by
    refine ih (s ++ t) _ bs' a' w' (by simp;omega) ?_ ?_ (by simpa using hsz) (fun k hk=>?_) (fun e he i hi=>hEn e he i (by rcases List.mem_append.1 hi with h|h;exact List.mem_append_left _ h;exact List.mem_append_right _ (List.mem_cons_of_mem _ h))) ?_ hC' hb' hfin h'
    ·refine List.Pairwise.sublist ?_ hp
     exact List.Sublist.append_left (List.sublist_cons_self j t) s
    ·intro i hi;exact hin i (by rcases List.mem_append.1 hi with h|h;exact List.mem_append_left _ h;exact List.mem_append_right _ (List.mem_cons_of_mem _ h))
    ·rw [getD_set_iff hjsz,hun k hk]
     constructor
     ·rintro ⟨h0,h2⟩
      rcases h0 with h1|h1
      ·rcases List.mem_append.1 h1 with h1|h1
       ·exact .inl (List.mem_append_left _ h1)
       ·rcases List.mem_cons.1 h1 with h1|h1
        ·exact absurd h1 h2
        ·exact .inl (List.mem_append_right _ h1)
      ·exact .inr h1
     ·rintro (h1|h1)
      ·refine ⟨.inl ?_,fun e=>hnd (e ▸ h1)⟩
       rcases List.mem_append.1 h1 with h1|h1
       ·exact List.mem_append_left _ h1
       ·exact List.mem_append_right _ (List.mem_cons_of_mem _ h1)
      ·exact ⟨.inr h1,fun e=>(hEn k h1 j hjl).2.2 e.symm⟩
    ·intro k ok hok hlk e he hb
     by_cases hkj:j=k
     ·subst hkj
      obtain rfl:ok=oj:=Option.some.inj (hok.symm.trans hoj)
      exact getD_set_true (hall e he hb)
     ·rw [getD_set_ne false hkj] at hlk
      exact getD_set_true (hcl k ok hok hlk e he hb)
   unfold wpOp
   simp only [hoj]
   by_cases hw:Region.wanted oj (yielded ops a.tmps)=true
   ·rw [if_pos hw]
    left
    cases hk:opKind oj with
    | still =>
     obtain ⟨a',bs',w',hC',e1,e2,h1⟩:=WX_reach hsel hG hoj t s bs a w hins hfr hC hbs h
     have h2:=h1 oj hoj
     unfold atX stepX at h2
     rw [if_pos (by rw [e2];exact hw)] at h2
     simp only [hk] at h2
     obtain ⟨v,h3,_⟩:=h2
     have hy:YieldsC P ops C oj v a:=.inl ⟨hw,fun w1 hw1=>by have:=h3 w1 hw1;unfold stillAt at this ⊢;rw [← e1];exact this⟩
     have h4:=WX_still hsel hG hoj t s bs a w hfr hC h (.inl hk) hy
     refine wp_of_gOp (C:=C) (K:=fun a' w'=>WX P ops C N Q1 (s ++ t) bs a' w'∧w'=w) hC (fun a' w' hC' h5=>next bs a' w' hC' (by rw [h5.2];exact hbs) h5.1) (.inl ⟨v,(hy.resolve_right fun hh=>by rw [hh.1] at hw;cases hw).2,h4,rfl⟩)
    | act =>
     have h1:=WX_act hsel hoj hk t s bs a w hins hfr (fun i hi oi hoi=>((hsp i hi oi hoi).2).resolve_left (by simp [hk])) hC h hw
     exact h1.wp fun v w2 ⟨c1,c2,bs',c5,c6⟩=>next bs' _ w2 c1 (fun k hk'=>by rcases c5 k hk' with h5|h5;(have:=hbs k h5;omega);exact h5.2) c6
    | make =>
     obtain ⟨a',bs',w',hC',e1,e2,h1⟩:=WX_reach hsel hG hoj t s bs a w hins hfr hC hbs h
     have h2:=h1 oj hoj
     unfold atX stepX at h2
     rw [if_pos (by rw [e2];exact hw)] at h2
     simp only [hk] at h2
     obtain ⟨mk,ob,h3,_⟩:=h2
     have h4:=h3 w hC
     rw [e1] at h4
     have hB:=hG.base w hC
     have h5:=WX_resolve hsel hoj hk hC rfl t s bs a w (w.alloc ob) hfr h hw h4 (alloc_below w ob) (heap_alloc_new w ob) hB (fun hh=>by have:=hbs _ hh;omega)
     unfold Oper.wp
     rw [h4,Oper.upon_value]
     exact next _ _ _ (hG.grow _ _ hC (alloc_below w ob)) (fun k hk'=>by rcases hk' with rfl|hk';simp;(have:=hbs k hk';simp;omega)) h5
   ·rw [if_neg hw]
    have hy:YieldsC P ops C oj undef a:=.inr ⟨by simpa using hw,rfl⟩
    exact next bs _ w hC hbs (WX_still hsel hG hoj t s bs a w hfr hC h (.inr (by simpa using hw)) hy)
def acts2B (ops:Array Oper) (f:Nat) (ord1 ord2:List Nat):Bool :=
 Region.noSelect ops && pairsB ops f ord1 && pairsB ops f ord2 && soundB ops (ord1 ++ ord2) && decide (ord1.length+ord2.length=ops.size) &&
  ord2.all (fun e=>ord1.all fun i=>needsB ops f e i && !Region.waitsFor .any ops i e && decide (i ≠ e))
def Stage (P:Program) (ops:Array Oper) (Q:Exit → Act → World → Prop) (ord:List Nat) (a:Act) (w:World):Prop :=
 ∃ (C:World → Prop) (N:Nat),Grows C N∧C w∧WX P ops C N Q ord (fun _=>False) a w
theorem region_acts2 {id:Nat} {a:Act} {w:World} {l:List Oper} (f:Nat) (ord1 ord2:List Nat) (hm:P.follows .mixedOrders=true) (hB:acts2B l.toArray f ord1 ord2=true)
  (hG:Grows C N) (hC:C w.drew) (h:WX P l.toArray C N (fun _ a' w'=>Stage P l.toArray Q ord2 a' w') ord1 (fun _=>False) a w.drew):(Code.region id l.toArray true).wp P Q a w:=by
 simp only [acts2B,Bool.and_eq_true,decide_eq_true_eq] at hB
 obtain ⟨⟨⟨⟨⟨hsel,hp1⟩,hp2⟩,hsound⟩,hlen⟩,hE⟩:=hB
 simp only [soundB,Bool.and_eq_true,List.all_eq_true,decide_eq_true_eq,Bool.not_eq_true',List.mem_range,List.contains_iff_mem] at hsound
 obtain ⟨⟨h1,h2⟩,h3⟩:=hsound
 simp only [List.all_eq_true,Bool.and_eq_true,decide_eq_true_eq,Bool.not_eq_true'] at hE
 have hrange:∀ (j:Nat) (oj:Oper),l.toArray[j]?=some oj → ∀ e ∈ oj.after,Region.binds .any e=true → e.on<l.toArray.size:=fun j oj hj e he hb=>by
  have h4:=Array.all_eq_true'.1 h3 oj (Array.mem_of_getElem? hj)
  have h5:=Array.all_eq_true'.1 h4 e he
  simpa [hb] using h5
 have hself:∀ j,j<l.toArray.size → Region.waitsFor .any l.toArray j j=false:=fun j hj=>(h1 j (h2 j hj)).2
 refine wp_region_any hm ?_
 rw [← hlen]
 refine WX_any2 ord2 ord2.length (Region.noSelect_spec hsel) hG f hrange hself ord1.length ord1 _ (fun _=>False) a _ rfl (pairsB_spec ord1 hp1) (fun i hi=>(h1 i (List.mem_append_left _ hi)).1) (by simpa using hlen) (fun k hk=>?_)
  (fun e he i hi=>⟨(hE e he i hi).1.1,(hE e he i hi).1.2,(hE e he i hi).2⟩) (fun j oj _ hl=>?_) hC (fun k hk=>hk.elim) ?_ h
 ·refine ⟨fun _=>by have:=h2 k hk;rcases List.mem_append.1 this with h|h;exact .inl h;exact .inr h,fun _=>by rw [getD_in (by simpa [hlen] using hk) (getD_replicate_false _ _)]⟩
 ·rw [getD_replicate_false] at hl;cases hl
 ·rintro listed a' w' hsz hun hcl ⟨C2,N2,hG2,hC2,hW2⟩
  exact WX_any (Region.noSelect_spec hsel) hG2 f hrange hself ord2.length ord2 listed (fun _=>False) a' w' rfl (pairsB_spec ord2 hp2) (fun i hi=>(h1 i (List.mem_append_right _ hi)).1) hsz hun hcl hC2 (fun k hk=>hk.elim) hW2
end
end Go.Proofs.YtbljmfcifljkaaaGreatDoor
/-
  A region that draws its order: one operation that only moves a value is taken first, the others in two stages. Own work, over the library's laws on orders.
-/
namespace Go.Proofs.YtbljmfcifljkaaaGreatDoor
open Go.RowKit
section
variable {P:Program} {C:World → Prop} {N:Nat} {Q:Exit → Act → World → Prop}
end
end Go.Proofs.YtbljmfcifljkaaaGreatDoor
/-
  The program's parser: part, at a word. Own work; by a program of my own (parI.py).
-/
namespace Go.Proofs.YtbljmfcifljkaaaGreatDoor
open Go.RowKit
end Go.Proofs.YtbljmfcifljkaaaGreatDoor
/-
  The program's parser: part, row and term at all tokens. Own work.
-/
namespace Go.Proofs.YtbljmfcifljkaaaGreatDoor
open Go.RowKit
end Go.Proofs.YtbljmfcifljkaaaGreatDoor
/-
  The size checks of the laws: each returns a number of at most what was left, and turns nothing. Own work.
-/
namespace Go.Proofs.YtbljmfcifljkaaaGreatDoor
open Go.RowKit
def SzPost (left:Int) (w:World) (e:Ending) (w':World):Prop:=∃ r:Int,e=.returned (.int .i64 r)∧-1≤r∧r≤left∧Below w.heap.size w w'
end Go.Proofs.YtbljmfcifljkaaaGreatDoor
/-
  The walk of checked: the nodes that have been read, typed one by one. Own work.
-/
namespace Go.Proofs.YtbljmfcifljkaaaGreatDoor
open Go.RowKit
def RdAt (w:World) (x:Nd × Int) (b o:Nat):Prop :=
 w.cell? ⟨b,o,none⟩=some (.int .i64 x.1.kind)∧w.cell? ⟨b,o+1,none⟩=some (.int .i64 x.1.value)∧w.cell? ⟨b,o+2,none⟩=some (.string x.1.name)∧w.cell? ⟨b,o+3,none⟩=some (.int .i64 x.2)
def RdsAt (w:World) (v:Value) (rds:Rd):Prop:=SlAt 4 v rds.length fun i b o=>∃ h:i<rds.length,RdAt w rds[i] b o
theorem RdAt.keep {w w':World} (hb:Below w.heap.size w w') {x:Nd × Int} {b o:Nat} (h:RdAt w x b o):RdAt w' x b o:=⟨cell_keep hb h.1,cell_keep hb h.2.1,cell_keep hb h.2.2.1,cell_keep hb h.2.2.2⟩
theorem RdsAt.keep {w w':World} (hb:Below w.heap.size w w') {v:Value} {rds:Rd} (h:RdsAt w v rds):RdsAt w' v rds:=SlAt.mono h fun _ _ _ ⟨hi,r⟩=>⟨hi,r.keep hb⟩
theorem below_exc {T:Nat → Prop} {w0 w1:World} {B:Nat} (h:Exc T w0 w1) (hB:B≤w0.heap.size) (hT:∀ k,T k → B≤k):Below B w0 w1 :=
 ⟨h.os,h.tape,h.output,h.size,fun k hk=>h.block k (by omega) (fun ht=>by have:=hT k ht;omega)⟩
end Go.Proofs.YtbljmfcifljkaaaGreatDoor
/-
  copyLibrary and lbOwn: libraries that share nothing. Own work.
-/
namespace Go.Proofs.YtbljmfcifljkaaaGreatDoor
open Go.RowKit
def CpSt (w wr:World) (B:Nat) (v:Value) (L:List Df) (k:Nat):Prop:=∃ xs:List (Df × Value),xs.map Prod.fst=L.take k∧DfsRow wr B v xs∧Below w.heap.size w wr∧w.heap.size≤B∧B≤wr.heap.size
theorem CpSt.step {w wr w2 w':World} {B k:Nat} {v v' vb:Value} {L:List Df} {xs:List (Df × Value)} {o:Obj} (e:xs.map Prod.fst=L.take k) (hbel:Below w.heap.size w wr) (hwB:w.heap.size≤B) (hB:B≤wr.heap.size) (hk:k<L.length)
  (hb2:Below wr.heap.size wr w2) (hr:DfsRow w' B v' (xs ++ [(L[k],vb)])) (hv:∀ j,v.ownBlock=some j → w.heap.size≤j) (hg:(w2.alloc o).grownBy w' v.ownBlock):CpSt w w' B v' L (k+1):=by
 have h2:=hb2.size
 have h3:=hg.size
 have h1:=hbel.size
 simp only [World.size_alloc] at h3
 refine ⟨_,?_,hr,?_,hwB,by omega⟩
 ·rw [List.map_append,e,List.take_succ_eq_append_getElem hk];rfl
 ·exact ((hbel.trans (hb2.mono h1)).alloc (by omega) o).grown hg (by simp;omega) hv
end Go.Proofs.YtbljmfcifljkaaaGreatDoor
/-
  The walk of isLibrary. Own work.
-/
namespace Go.Proofs.YtbljmfcifljkaaaGreatDoor
open Go.RowKit
end Go.Proofs.YtbljmfcifljkaaaGreatDoor
/-
  The program's AddDef, RemoveDef and validLibrary. Own work.
-/
namespace Go.Proofs.YtbljmfcifljkaaaGreatDoor
open Go.RowKit
end Go.Proofs.YtbljmfcifljkaaaGreatDoor
/-
  The program's parser: a whole term. Own work.
-/
namespace Go.Proofs.YtbljmfcifljkaaaGreatDoor
open Go.RowKit
theorem ParAt.facts {B br:Nat} {en:Int} {w:World} {ts:List Tk} {out:Rd} (h:ParAt B br en w ts out):br<B∧B≤w.heap.size∧TksOk ts:=by
 obtain ⟨vt,vo,h⟩:=h;exact ⟨h.lt,h.sz,h.tk.1⟩
end Go.Proofs.YtbljmfcifljkaaaGreatDoor
/-
  The program's parseDef. Own work.
-/
namespace Go.Proofs.YtbljmfcifljkaaaGreatDoor
open Go.RowKit
end Go.Proofs.YtbljmfcifljkaaaGreatDoor
/-
  The program's ParseDef. Own work.
-/
namespace Go.Proofs.YtbljmfcifljkaaaGreatDoor
open Go.RowKit
end Go.Proofs.YtbljmfcifljkaaaGreatDoor
/-
  The program's parseTerm (PtI's first half, for a seat without ParseTerm). Own work.
-/
namespace Go.Proofs.YtbljmfcifljkaaaGreatDoor
open Go.RowKit
end Go.Proofs.YtbljmfcifljkaaaGreatDoor
/-
  The axioms, plain: trees, texts of the table with letters for numbers, and what their texts are read as. Own work; the table is printed by wip/parAx.py.
-/
namespace Go.Proofs.YtbljmfcifljkaaaGreatDoor
def lf (k v:Int):Tr:=.leaf ⟨k,v,⟨#[]⟩⟩
def axTxt:List (ByteArray × ByteArray × ByteArray) :=
 [(⟨#[99,111,112,121,97,115]⟩,⟨#[99,111,112,121,32,59,32,40,99,111,112,121,32,42,32,105,100,32,49,41]⟩,⟨#[99,111,112,121,32,59,32,40,105,100,32,49,32,42,32,99,111,112,121,41]⟩),
  (⟨#[99,111,112,121,117,110]⟩,⟨#[99,111,112,121,32,59,32,40,100,105,115,99,97,114,100,32,42,32,105,100,32,49,41]⟩,⟨#[105,100,32,49]⟩),
  (⟨#[99,111,112,121,99,109]⟩,⟨#[99,111,112,121,32,59,32,115,119,97,112]⟩,⟨#[99,111,112,121]⟩),
  (⟨#[97,100,100,97,115]⟩,⟨#[40,97,100,100,32,42,32,105,100,32,49,41,32,59,32,97,100,100]⟩,⟨#[40,105,100,32,49,32,42,32,97,100,100,41,32,59,32,97,100,100]⟩),
  (⟨#[97,100,100,117,110]⟩,⟨#[40,122,101,114,111,32,42,32,105,100,32,49,41,32,59,32,97,100,100]⟩,⟨#[105,100,32,49]⟩),
  (⟨#[97,100,100,99,109]⟩,⟨#[115,119,97,112,32,59,32,97,100,100]⟩,⟨#[97,100,100]⟩),
  (⟨#[97,100,100,99,111,112,121]⟩,⟨#[97,100,100,32,59,32,99,111,112,121]⟩,⟨#[40,40,99,111,112,121,32,42,32,99,111,112,121,41,32,59,32,40,40,105,100,32,49,32,42,32,115,119,97,112,41,32,42,32,105,100,32,49,41,41,32,59,32,40,97,100,100,32,42,32,97,100,100,41]⟩),
  (⟨#[97,100,100,100,105,115]⟩,⟨#[97,100,100,32,59,32,100,105,115,99,97,114,100]⟩,⟨#[100,105,115,99,97,114,100,32,42,32,100,105,115,99,97,114,100]⟩),
  (⟨#[122,101,114,111,99,111,112]⟩,⟨#[122,101,114,111,32,59,32,99,111,112,121]⟩,⟨#[122,101,114,111,32,42,32,122,101,114,111]⟩),
  (⟨#[122,101,114,111,100,105,115]⟩,⟨#[122,101,114,111,32,59,32,100,105,115,99,97,114,100]⟩,⟨#[105,100,32,48]⟩),
  (⟨#[115,99,111,110,101]⟩,⟨#[115,99,97,108,101,32,49]⟩,⟨#[105,100,32,49]⟩),
  (⟨#[115,99,122,101,114,111]⟩,⟨#[115,99,97,108,101,32,48]⟩,⟨#[100,105,115,99,97,114,100,32,59,32,122,101,114,111]⟩),
  (⟨#[115,99,109,117,108]⟩,⟨#[115,99,97,108,101,32,75,32,59,32,115,99,97,108,101,32,76]⟩,⟨#[115,99,97,108,101,32,77]⟩),
  (⟨#[115,99,97,100,100]⟩,⟨#[40,99,111,112,121,32,59,32,40,115,99,97,108,101,32,75,32,42,32,115,99,97,108,101,32,76,41,41,32,59,32,97,100,100]⟩,⟨#[115,99,97,108,101,32,83]⟩),
  (⟨#[115,99,116,104,114,117,97]⟩,⟨#[97,100,100,32,59,32,115,99,97,108,101,32,75]⟩,⟨#[40,115,99,97,108,101,32,75,32,42,32,115,99,97,108,101,32,75,41,32,59,32,97,100,100]⟩),
  (⟨#[115,99,116,104,114,117,99]⟩,⟨#[115,99,97,108,101,32,75,32,59,32,99,111,112,121]⟩,⟨#[99,111,112,121,32,59,32,40,115,99,97,108,101,32,75,32,42,32,115,99,97,108,101,32,75,41]⟩),
  (⟨#[115,99,100,105,115]⟩,⟨#[115,99,97,108,101,32,75,32,59,32,100,105,115,99,97,114,100]⟩,⟨#[100,105,115,99,97,114,100]⟩),
  (⟨#[122,101,114,111,115,99]⟩,⟨#[122,101,114,111,32,59,32,115,99,97,108,101,32,75]⟩,⟨#[122,101,114,111]⟩),
  (⟨#[102,114,111,98,99,111,112,121]⟩,⟨#[40,99,111,112,121,32,42,32,105,100,32,49,41,32,59,32,40,105,100,32,49,32,42,32,99,111,99,111,112,121,41]⟩,⟨#[99,111,99,111,112,121,32,59,32,99,111,112,121]⟩),
  (⟨#[115,112,101,99,105,97,108]⟩,⟨#[99,111,112,121,32,59,32,99,111,99,111,112,121]⟩,⟨#[105,100,32,49]⟩),
  (⟨#[102,114,111,98,97,100,100]⟩,⟨#[40,99,111,97,100,100,32,42,32,105,100,32,49,41,32,59,32,40,105,100,32,49,32,42,32,97,100,100,41]⟩,⟨#[97,100,100,32,59,32,99,111,97,100,100]⟩),
  (⟨#[97,100,100,115,112,101,99]⟩,⟨#[99,111,97,100,100,32,59,32,97,100,100]⟩,⟨#[105,100,32,49]⟩),
  (⟨#[98,111,110,101,99,111,112]⟩,⟨#[99,111,100,105,115,99,97,114,100,32,59,32,100,105,115,99,97,114,100]⟩,⟨#[105,100,32,48]⟩),
  (⟨#[98,111,110,101,97,100,100]⟩,⟨#[122,101,114,111,32,59,32,99,111,122,101,114,111]⟩,⟨#[105,100,32,48]⟩),
  (⟨#[97,100,100,99,97,112]⟩,⟨#[97,100,100,32,59,32,99,111,122,101,114,111]⟩,⟨#[40,40,105,100,32,49,32,42,32,115,99,97,108,101,32,78,41,32,59,32,99,111,99,111,112,121,41,32,59,32,100,105,115,99,97,114,100]⟩),
  (⟨#[115,99,105,110,118]⟩,⟨#[115,99,97,108,101,32,75,32,59,32,99,111,115,99,97,108,101,32,75]⟩,⟨#[105,100,32,49]⟩),
  (⟨#[99,111,115,99,105,110,118]⟩,⟨#[99,111,115,99,97,108,101,32,75,32,59,32,115,99,97,108,101,32,75]⟩,⟨#[105,100,32,49]⟩)]
end Go.Proofs.YtbljmfcifljkaaaGreatDoor
/-
  The reference's small functions: fdMul fdAdd fdTwo tmTop tmMirrorKind. Own work.
-/
namespace Go.Proofs.YtbljmfcifljkaaaGreatDoor
open Go.RowKit
set_option maxRecDepth 100000
set_option maxHeartbeats 4000000
end Go.Proofs.YtbljmfcifljkaaaGreatDoor
/-
  sync.Once in one goroutine: the first Do, and one that is done already. Own work, in the frame of the guide's LazyParts, LazySlow, LazyWalks. (Type numbers 392, 396: the third seat's.)
-/
namespace Go.Proofs.YtbljmfcifljkaaaGreatDoor
set_option maxRecDepth 100000
set_option maxHeartbeats 2000000
end Go.Proofs.YtbljmfcifljkaaaGreatDoor
/-
  strings.Replacer: its table is made. Own work.
-/
namespace Go.Proofs.YtbljmfcifljkaaaGreatDoor
open Go.RowKit
set_option maxRecDepth 100000
set_option maxHeartbeats 4000000
def repK:List Nat:=[75,76,77,83,78]
def onL (xs:List ByteArray):List ByteArray:=(repK.zip xs).flatMap fun p=>[⟨#[UInt8.ofNat p.1]⟩,p.2]
theorem onL_len (xs:List ByteArray) (h:xs.length=5):(onL xs).length=10:=by
 match xs,h with
 | [a,b,c,d,e],_=>rfl
theorem onL_old (xs:List ByteArray) (h:xs.length=5) (k:Nat) (hk:k<5):(onL xs)[2 * k]?=some ⟨#[UInt8.ofNat (repK.getD k 0)]⟩:=by
 match xs,h,k,hk with
 | [a,b,c,d,e],_,0,_=>rfl
 | [a,b,c,d,e],_,1,_=>rfl
 | [a,b,c,d,e],_,2,_=>rfl
 | [a,b,c,d,e],_,3,_=>rfl
 | [a,b,c,d,e],_,4,_=>rfl
theorem onL_new (xs:List ByteArray) (h:xs.length=5) (k:Nat) (hk:k<5):(onL xs)[2 * k+1]?=some (xs[k]'(by omega)):=by
 match xs,h,k,hk with
 | [a,b,c,d,e],_,0,_=>rfl
 | [a,b,c,d,e],_,1,_=>rfl
 | [a,b,c,d,e],_,2,_=>rfl
 | [a,b,c,d,e],_,3,_=>rfl
 | [a,b,c,d,e],_,4,_=>rfl
structure OnAt (w:World) (v:Value) (xs:List ByteArray):Prop where
 len:xs.length=5
 at':∃ g o c,v=.slice (some ⟨g,o,none⟩) 10 c∧10≤c∧∀ k,∀ h:k<5,w.cell? ⟨g,o+2 * k,none⟩=some (.string ⟨#[UInt8.ofNat (repK.getD k 0)]⟩)∧w.cell? ⟨g,o+(2 * k+1),none⟩=some (.string (xs[k]'(by omega)))
def tabV (n:Nat) (f:Nat → Value):Array Value:=(Array.range n).map f
theorem tabV_size (n:Nat) (f:Nat → Value):(tabV n f).size=n:=by simp [tabV]
theorem tabV_get (n:Nat) (f:Nat → Value) (j:Nat) (h:j<n):(tabV n f)[j]?=some (f j):=by simp [tabV,h]
def TabAt (w:World) (tb:Nat) (t:TypeId) (n:Nat) (f:Nat → Value):Prop:=w.heap[tb]?=some (.cells (tabV n f) t (0,0))
theorem TabAt.cell {w:World} {tb:Nat} {t:TypeId} {n:Nat} {f:Nat → Value} (h:TabAt w tb t n f) (j:Nat) (hj:j<n):w.cell? ⟨tb,j,none⟩=some (f j):=by
 rw [cell_of_row _ _ j _ t (0,0) h,tabV_get n f j hj]
theorem TabAt.froz {w:World} {tb:Nat} {t:TypeId} {n:Nat} {f:Nat → Value} (h:TabAt w tb t n f) (j:Nat):w.frozen? ⟨tb,j,none⟩=false:=by
 unfold World.frozen?
 rw [h]
 simp
theorem TabAt.lt {w:World} {tb:Nat} {t:TypeId} {n:Nat} {f:Nat → Value} (h:TabAt w tb t n f):tb<w.heap.size:=(Array.getElem?_eq_some_iff.1 h).1
theorem TabAt.keep {w w':World} {tb:Nat} {t:TypeId} {n:Nat} {f:Nat → Value} (h:TabAt w tb t n f) (hb:Below w.heap.size w w'):TabAt w' tb t n f:=(hb.block tb h.lt).trans h
theorem TabAt.set {w:World} {tb:Nat} {t:TypeId} {n:Nat} {f:Nat → Value} (h:TabAt w tb t n f) (j:Nat) (hj:j<n) (v:Value):TabAt (w.setCell ⟨tb,j,none⟩ v) tb t n (fun i=>if i=j then v else f i):=by
 unfold TabAt World.setCell
 simp only [Array.getElem?_modify,if_pos]
 rw [h]
 simp only [Option.map_some,Option.some.injEq,Obj.cells.injEq,and_true]
 apply Array.ext_getElem?
 intro i
 by_cases hi:i<n
 ·rw [tabV_get n _ i hi]
  by_cases e:i=j
  ·subst e
   simp [tabV_size,hi]
  ·simp [e,tabV_get n f i hi,Array.getElem?_set,Ne.symm e]
 ·rw [Array.getElem?_eq_none (by simp [tabV_size];omega),Array.getElem?_eq_none (by simp [tabV_size];omega)]
end Go.Proofs.YtbljmfcifljkaaaGreatDoor
/-
  strings.NewReplacer. Own work.
-/
namespace Go.Proofs.YtbljmfcifljkaaaGreatDoor
open Go.RowKit
set_option maxRecDepth 100000
set_option maxHeartbeats 4000000
theorem addr_add (g o j:Nat):(⟨g,o,none⟩:Addr).add j=⟨g,o+j,none⟩:=by
 unfold Addr.add
 split <;> simp_all
theorem OnAt.src {w:World} {v:Value} {xs:List ByteArray} (h:OnAt w v xs):SrcAt w 1 v 10 ((onL xs).map Value.string):=by
 obtain ⟨hl,g,o,c,rfl,hc,hat⟩:=h
 refine ⟨by rw [List.length_map,onL_len xs hl],.inr ⟨⟨g,o,none⟩,c,rfl,fun j u hu=>?_⟩⟩
 rw [addr_add]
 rw [List.getElem?_map] at hu
 have hj:j<10:=by
  rcases Nat.lt_or_ge j 10 with h|h
  ·exact h
  ·rw [List.getElem?_eq_none (by rw [onL_len xs hl];exact h)] at hu;cases hu
 obtain ⟨k,hk,e⟩:∃ k,k<5∧(j=2 * k∨j=2 * k+1):=⟨j / 2,by omega,by omega⟩
 rcases e with rfl|rfl
 ·rw [onL_old xs hl k hk] at hu
  rw [(hat k hk).1]
  exact hu
 ·rw [onL_new xs hl k hk] at hu
  rw [(hat k hk).2]
  exact hu
structure RpNew (w:World) (b:Nat) (v:Value) (xs:List ByteArray):Prop where
 c0:w.cell? ⟨b,0,none⟩=some (.int .u32 0)
 c1:w.cell? ⟨b,1,none⟩=some (.int .i32 0)
 c3:w.cell? ⟨b,3,none⟩=some .nilIface
 c4:w.cell? ⟨b,4,none⟩=some v
 fz:∀ j,w.frozen? ⟨b,j,none⟩=false
 on:OnAt w v xs
end Go.Proofs.YtbljmfcifljkaaaGreatDoor
/-
  Rows of rules that grow by append. Own work.
-/
namespace Go.Proofs.YtbljmfcifljkaaaGreatDoor
open Go.RowKit
set_option maxRecDepth 100000
set_option maxHeartbeats 4000000
def RuIn (w:World) (B:Nat) (ys:List RuV):Prop:=(∀ y ∈ ys,NdsOwn w B y.2.1 y.1.left∧NdsOwn w B y.2.2 y.1.right∧Apart y.2.1 y.2.2)∧ys.Pairwise RuSep
theorem RuIn.keep {w w':World} {B:Nat} {ys:List RuV} (h:RuIn w B ys) (hb:Below w.heap.size w w'):RuIn w' B ys :=
 ⟨fun y hy=>⟨(h.1 y hy).1.keep hb,(h.1 y hy).2.1.keep hb,(h.1 y hy).2.2⟩,h.2⟩
theorem RuRow.app {w w':World} {B:Nat} {v v':Value} {xs ys:List RuV} (h:RuRow w B v xs) (hy:RuIn w B ys) (hxy:∀ x ∈ xs,∀ y ∈ ys,RuSep x y)
  (hown:w'.ownsRow B 32 3 v' (xs.length+ys.length) (xs.flatMap ruCells ++ ys.flatMap ruCells)) (hg:w.grownBy w' v.ownBlock):RuRow w' B v' (xs ++ ys):=by
 have ne:∀ (u:Value) ns,NdsOwn w B u ns → ∀ k,u.ownBlock=some k → v.ownBlock ≠ some k:=fun u ns hu k hk=>owns_ne hu h.1 (by decide) k hk
 have mv:∀ (u:Value) ns,NdsOwn w B u ns → NdsOwn w' B u ns:=fun u ns hu=>nds_grown hu hg (ne u ns hu)
 refine ⟨?_,?_,?_⟩
 ·rw [List.length_append,List.flatMap_append];exact hown
 ·intro x hx
  have hxo:NdsOwn w B x.2.1 x.1.left∧NdsOwn w B x.2.2 x.1.right∧Apart x.2.1 x.2.2:=by
   rcases List.mem_append.1 hx with hx|hx
   ·exact h.2.1 x hx
   ·exact hy.1 x hx
  exact ⟨mv _ _ hxo.1,mv _ _ hxo.2.1,hxo.2.2⟩
 ·exact List.pairwise_append.2 ⟨h.2.2,hy.2,hxy⟩
theorem RuIn.part {w:World} {B:Nat} {ys:List RuV} (h:RuIn w B ys) (i m:Nat):RuIn w B ((ys.drop i).take m):=by
 have hs:((ys.drop i).take m).Sublist ys:=(List.take_sublist _ _).trans (List.drop_sublist _ _)
 exact ⟨fun y hy=>h.1 y (hs.subset hy),h.2.sublist hs⟩
end Go.Proofs.YtbljmfcifljkaaaGreatDoor
/-
  typed at leafWires: wires, isValid. Own work; printed by wip/parTy.py.
-/
namespace Go.Proofs.YtbljmfcifljkaaaGreatDoor
open Go.RowKit
end Go.Proofs.YtbljmfcifljkaaaGreatDoor
/-
  wires and isValid of a term; slices.Grow, slices.Concat, joinNodes. Own work.
-/
namespace Go.Proofs.YtbljmfcifljkaaaGreatDoor
open Go.RowKit
set_option maxRecDepth 100000
set_option maxHeartbeats 4000000
end Go.Proofs.YtbljmfcifljkaaaGreatDoor
/-
  The axioms' trees: their types, and what their texts are read as. Plain. Own work.
-/
namespace Go.Proofs.YtbljmfcifljkaaaGreatDoor
def Tr.ty (leaf:Nd → Option W2):Tr → Option W2
 | .leaf n=>leaf n
 | .seq a b=>match a.ty leaf,b.ty leaf with
  | some x,some y=>joinW 15 x y
  | _,_=>none
 | .par a b=>match a.ty leaf,b.ty leaf with
  | some x,some y=>joinW 16 x y
  | _,_=>none
end Go.Proofs.YtbljmfcifljkaaaGreatDoor
/-
  Walks of the printers of terms, the program's. Own work.
-/
namespace Go.Proofs.YtbljmfcifljkaaaGreatDoor
open Go.RowKit
def z2:Value:=.agg #[.nilIface,.nilIface]
def z3:Value:=.agg #[.int .i64 0,.int .i64 0,.string ⟨#[]⟩]
section
variable (a:Array Value) (w:World)
end
end Go.Proofs.YtbljmfcifljkaaaGreatDoor
/-
  joinNodes, the nodes of a tree, its mirror image. Own work.
-/
namespace Go.Proofs.YtbljmfcifljkaaaGreatDoor
open Go.RowKit
set_option maxRecDepth 100000
set_option maxHeartbeats 4000000
end Go.Proofs.YtbljmfcifljkaaaGreatDoor
/-
  The walk of treeOf: the tree of nodes that are a term. Own work.
-/
namespace Go.Proofs.YtbljmfcifljkaaaGreatDoor
open Go.RowKit
end Go.Proofs.YtbljmfcifljkaaaGreatDoor
/-
  MirrorTerm, a rule's mirror image, at the axioms' trees. Own work.
-/
namespace Go.Proofs.YtbljmfcifljkaaaGreatDoor
open Go.RowKit
set_option maxRecDepth 100000
set_option maxHeartbeats 4000000
end Go.Proofs.YtbljmfcifljkaaaGreatDoor
/-
  A region that draws its order, many calls in it: each call is shown to wait for the one ahead of it. Own work; printed by wip/parA4.py out of Acts.
-/
namespace Go.Proofs.YtbljmfcifljkaaaGreatDoor
open Go.RowKit
set_option maxRecDepth 100000
section
variable {P:Program} {ops:Array Oper} {C:World → Prop} {N:Nat} {Q:Exit → Act → World → Prop}
inductive NeedP (ops:Array Oper):Nat → Nat → Prop
 | one {j i:Nat}:Region.waitsFor .any ops j i=true → NeedP ops j i
 | more {j p i:Nat}:Region.waitsFor .any ops j p=true → NeedP ops p i → NeedP ops j i
theorem NeedP.trans {ops:Array Oper} {a b c:Nat} (h:NeedP ops a b) (k:NeedP ops b c):NeedP ops a c:=by
 induction h with
 | one h=>exact .more h k
 | more h _ ih=>exact .more h (ih k)
end
end Go.Proofs.YtbljmfcifljkaaaGreatDoor
/-
  The reference's small terms, as trees; rows of rules whose terms are shared. Own work.
-/
namespace Go.Proofs.YtbljmfcifljkaaaGreatDoor
open Go.RowKit
set_option maxRecDepth 100000
set_option maxHeartbeats 4000000
def AllO (w:World) (B:Nat) (L:List (Value × Tr)):Prop:=∀ x ∈ L,NdsOwn w B x.1 x.2.nodes
theorem AllO.nil (w:World) (B:Nat):AllO w B []:=by intro x hx;simp at hx
theorem AllO.cons {w:World} {B:Nat} {v:Value} {T:Tr} {L:List (Value × Tr)} (h:NdsOwn w B v T.nodes) (H:AllO w B L):AllO w B ((v,T) :: L):=by
 intro x hx
 rcases List.mem_cons.1 hx with rfl|hx
 ·exact h
 ·exact H x hx
theorem AllO.keep {w w':World} {B:Nat} {L:List (Value × Tr)} (hb:Below w.heap.size w w') (H:AllO w B L):AllO w' B L:=fun x hx=>(H x hx).keep hb
def RuS (w:World) (B:Nat) (v:Value) (xs:List RuV):Prop:=w.ownsRow B 32 3 v xs.length (xs.flatMap ruCells)∧∀ x ∈ xs,NdsOwn w B x.2.1 x.1.left∧NdsOwn w B x.2.2 x.1.right
theorem RuS.keep {w w':World} {B:Nat} {v:Value} {xs:List RuV} (hb:Below w.heap.size w w') (h:RuS w B v xs):RuS w' B v xs:=⟨owns_keep hb h.1,fun x hx=>⟨(h.2 x hx).1.keep hb,(h.2 x hx).2.keep hb⟩⟩
theorem RuS.mono {w:World} {B B':Nat} {v:Value} {xs:List RuV} (hB:B'≤B) (h:RuS w B v xs):RuS w B' v xs:=⟨owns_mono hB h.1,fun x hx=>⟨(h.2 x hx).1.mono hB,(h.2 x hx).2.mono hB⟩⟩
theorem RuS.at {w:World} {B:Nat} {v:Value} {xs:List RuV} (h:RuS w B v xs):RusAt w v (xs.map Prod.fst):=by
 obtain ⟨ho,hb⟩:=h
 have ho':w.ownsRow B 32 3 v (xs.map Prod.fst).length (xs.flatMap ruCells):=by rw [List.length_map];exact ho
 refine owns_slat ho' _ fun i b o hi' hc=>⟨hi',?_⟩
 have hi:i<xs.length:=by simpa using hi'
 have g:∀ j,j<3 → w.cell? ⟨b,o+j,none⟩=(ruCells xs[i])[j]?:=fun j hj=>(hc j hj).trans (flat_get ruCells_len xs i j hi hj)
 rw [List.getElem_map]
 have hx:=hb _ (List.getElem_mem hi)
 exact ⟨g 0 (by omega),⟨xs[i].2.1,g 1 (by omega),hx.1.at⟩,xs[i].2.2,g 2 (by omega),hx.2.at⟩
end Go.Proofs.YtbljmfcifljkaaaGreatDoor
/-
  Rows of rules whose terms are shared: what a function that makes one hands back, and appends to it in a drawn region. Own work.
-/
namespace Go.Proofs.YtbljmfcifljkaaaGreatDoor
open Go.RowKit
set_option maxRecDepth 100000
set_option maxHeartbeats 4000000
def RuAllO (w:World) (B:Nat) (xs:List RuV):Prop:=∀ x ∈ xs,NdsOwn w B x.2.1 x.1.left∧NdsOwn w B x.2.2 x.1.right
theorem RuAllO.nil (w:World) (B:Nat):RuAllO w B []:=by intro x hx;simp at hx
theorem RuAllO.keep {w w':World} {B:Nat} {xs:List RuV} (hb:Below w.heap.size w w') (H:RuAllO w B xs):RuAllO w' B xs:=fun x hx=>⟨(H x hx).1.keep hb,(H x hx).2.keep hb⟩
theorem RuAllO.mono {w:World} {B B':Nat} {xs:List RuV} (hB:B'≤B) (H:RuAllO w B xs):RuAllO w B' xs:=fun x hx=>⟨(H x hx).1.mono hB,(H x hx).2.mono hB⟩
theorem RuS.app {w w':World} {B:Nat} {v v':Value} {xs ys:List RuV} (h:RuS w B v xs) (hy:RuAllO w B ys)
  (hown:w'.ownsRow B 32 3 v' (xs.length+ys.length) (xs.flatMap ruCells ++ ys.flatMap ruCells)) (hg:w.grownBy w' v.ownBlock):RuS w' B v' (xs ++ ys):=by
 have ne:∀ (u:Value) ns,NdsOwn w B u ns → ∀ k,u.ownBlock=some k → v.ownBlock ≠ some k:=fun u ns hu k hk=>owns_ne hu h.1 (by decide) k hk
 have mv:∀ (u:Value) ns,NdsOwn w B u ns → NdsOwn w' B u ns:=fun u ns hu=>nds_grown hu hg (ne u ns hu)
 refine ⟨?_,?_⟩
 ·rw [List.length_append,List.flatMap_append];exact hown
 ·intro x hx
  have hxo:NdsOwn w B x.2.1 x.1.left∧NdsOwn w B x.2.2 x.1.right:=by
   rcases List.mem_append.1 hx with hx|hx
   ·exact h.2 x hx
   ·exact hy x hx
  exact ⟨mv _ _ hxo.1,mv _ _ hxo.2⟩
end Go.Proofs.YtbljmfcifljkaaaGreatDoor
