/-
  The laws' copies of their arguments: new memory that reads as the argument does. Own work.
-/
import Derived.Test.YtbljmfcifljkaaaGreatDoorProg
import Derived.Test.YtbljmfcifljkaaaGreatDoorYA
import Derived.WalkLawsBesides
import Derived.WalkSpells
import Derived.Test.YtbljmfcifljkaaaGreatDoorYB
import Derived.StillTailTactics
import Derived.WideShapes
import Derived.Deep.QuietTactic
import Derived.BigQuiet
import Derived.Deep.RegionWith
set_option linter.all false
set_option maxRecDepth 100000
set_option maxHeartbeats 8000000
namespace Go.Proofs.YtbljmfcifljkaaaGreatDoor
open Go.RowKit
theorem info170:(Tryz.prog.info? 144).map (fun i=>(i.zero,i.size,i.bytes))=some (some (.agg #[.int .i64 0,.int .i64 0,.string ⟨#[]⟩]),3,32):=by kernel_rfl
theorem NdsOwn.setLow {w:World} {B:Nat} {v:Value} {ns:List Nd} (h:NdsOwn w B v ns) {a:Addr} (ha:a.block<B) (u:Value):NdsOwn (w.setCell a u) B v ns:=ownsRow_setCell_below h ha u
end Go.Proofs.YtbljmfcifljkaaaGreatDoor
/-
  Own rows of definitions that grow by append. Own work.
-/
namespace Go.Proofs.YtbljmfcifljkaaaGreatDoor
open Go.RowKit
theorem owns_shape' {w:World} {B e sz:Nat} {v:Value} {n:Nat} {xs:List Value} (h:w.ownsRow B e sz v n xs):∃ ao cp,v=.slice ao n cp:=by
 rcases h.2 with ⟨rfl,rfl⟩|⟨g,cap,cur,rfl,_⟩
 ·exact ⟨_,_,rfl⟩
 ·exact ⟨_,_,rfl⟩
theorem owns_some' {w:World} {B e sz:Nat} {v:Value} {n:Nat} {xs:List Value} (h:w.ownsRow B e sz v n xs) (hn:0<n):∃ g cp,v=.slice (some ⟨g,0,none⟩) n cp∧n≤cp∧cp≤maxLen∧B≤g∧g<w.heap.size:=by
 have h':=h
 rcases h.2 with ⟨rfl,rfl⟩|⟨g,cap,cur,rfl,hb,hg,hc,hm,_⟩
 ·omega
 ·exact ⟨g,cap,rfl,hc,hm,hb,(World.ownsRow.lt h' g rfl).2⟩
def DfsRow (w:World) (B:Nat) (v:Value) (xs:List (Df × Value)):Prop :=
 w.ownsRow B 151 4 v xs.length (xs.flatMap dfCells)∧(∀ x ∈ xs,NdsOwn w B x.2 x.1.body)∧xs.Pairwise fun x y=>Apart x.2 y.2
theorem DfsRow.own {w:World} {B:Nat} {v:Value} {xs:List (Df × Value)} (h:DfsRow w B v xs):DfsOwn w B v (xs.map Prod.fst):=⟨xs,rfl,h⟩
theorem DfsOwn.row {w:World} {B:Nat} {v:Value} {L:List Df} (h:DfsOwn w B v L):∃ xs:List (Df × Value),xs.map Prod.fst=L∧DfsRow w B v xs:=h
theorem DfsRow.keep {w w':World} {B:Nat} {v:Value} {xs:List (Df × Value)} (hb:Below w.heap.size w w') (h:DfsRow w B v xs):DfsRow w' B v xs :=
 ⟨owns_keep hb h.1,fun x hx=>(h.2.1 x hx).keep hb,h.2.2⟩
theorem DfsRow.mono {w:World} {B B':Nat} {v:Value} {xs:List (Df × Value)} (hB:B'≤B) (h:DfsRow w B v xs):DfsRow w B' v xs:=⟨owns_mono hB h.1,fun x hx=>(h.2.1 x hx).mono hB,h.2.2⟩
theorem DfsRow.at {w:World} {B:Nat} {v:Value} {xs:List (Df × Value)} (h:DfsRow w B v xs):DfsAt w v (xs.map Prod.fst):=h.own.at
theorem DfsRow.shape {w:World} {B:Nat} {v:Value} {xs:List (Df × Value)} (h:DfsRow w B v xs) (n:Nat) (hn:xs.length=n):∃ ao cp,v=.slice ao n cp:=by
 subst hn;exact owns_shape' h.1
theorem nds_grown {w w':World} {B:Nat} {v:Value} {ns:List Nd} {row:Option Nat} (h:NdsOwn w B v ns) (hg:w.grownBy w' row) (hne:∀ k,v.ownBlock=some k → row ≠ some k):NdsOwn w' B v ns:=by
 refine World.ownsRow.kept h hg ?_
 cases hv:v.ownBlock with
 | none=>exact .inl rfl
 | some k=>exact .inr (fun e=>hne k hv e.symm)
end Go.Proofs.YtbljmfcifljkaaaGreatDoor
/-
  The laws' comparisons: true exactly if the data are equal. Own work.
-/
namespace Go.Proofs.YtbljmfcifljkaaaGreatDoor
open Go.RowKit
theorem str_beq (a b:ByteArray):(a.toList == b.toList)=decide (a=b):=by
 rw [ByteArray.toList_eq,ByteArray.toList_eq,Bool.eq_iff_iff];simp only [beq_iff_eq,decide_eq_true_eq]
 exact ⟨fun h=>WideShapes.bytes_inj h,fun h=>by rw [h]⟩
theorem str_of_ntrue {a b:ByteArray} (h:(!a.toList == b.toList)=true):a ≠ b:=by rw [str_beq] at h;simpa using h
theorem str_of_nfalse {a b:ByteArray} (h:(!a.toList == b.toList)=false):a=b:=by rw [str_beq] at h;simpa using h
theorem int_of_ntrue {a b:Int} (h:(a != b)=true):a ≠ b:=by simpa using h
theorem int_of_nfalse {a b:Int} (h:(a != b)=false):a=b:=by simpa using h
theorem no_bool {p:Prop} [Decidable p] (h:¬ p):Ending.returned (.bool false)=.returned (.bool (decide p)):=by simp [h]
theorem yes_bool {p:Prop} [Decidable p] (h:p):Ending.returned (.bool true)=.returned (.bool (decide p)):=by simp [h]
theorem eqNode_any (a b:Nd) (w:World) :
  Calls Tryz.prog 190 #[.agg #[.int .i64 a.kind,.int .i64 a.value,.string a.name],.agg #[.int .i64 b.kind,.int .i64 b.value,.string b.name]] w fun e w'=>e=.returned (.bool (decide (a=b)))∧Below w.heap.size w w':=by
 go_enter Tryz.func190,Tryz.ntmps190
 go_wp2
 all_goals
  go_ret
  refine ⟨?_,by repeat (first|exact Below.refl _ _|refine Below.alloc ?_ (by simp <;> omega) _)⟩
 ·exact no_bool fun h=>int_of_ntrue ‹_› (by rw [h])
 ·exact no_bool fun h=>int_of_ntrue ‹_› (by rw [h])
 ·exact no_bool fun h=>str_of_ntrue ‹_› (by rw [h])
 ·have h1:a.kind=b.kind:=int_of_nfalse ‹_›
  have h2:a.value=b.value:=int_of_nfalse ‹_›
  have h3:a.name=b.name:=str_of_nfalse ‹_›
  exact yes_bool (by cases a;cases b;simp_all)
def EqTail {α:Type} (a b:List α) (k:Nat):Prop:=a=b ↔ a.drop k=b.drop k
theorem EqTail.zero {α:Type} (a b:List α):EqTail a b 0:=by simp [EqTail]
theorem EqTail.step {α:Type} {a b:List α} {k:Nat} (h:EqTail a b k) (ha:k<a.length) (hb:k<b.length) (he:a[k]=b[k]):EqTail a b (k+1):=by
 unfold EqTail at *
 rw [h,List.drop_eq_getElem_cons ha,List.drop_eq_getElem_cons hb,he]
 simp only [List.cons.injEq,true_and]
theorem EqTail.no {α:Type} {a b:List α} {k:Nat} (h:EqTail a b k) (ha:k<a.length) (hb:k<b.length) (he:a[k] ≠ b[k]):a ≠ b:=by
 unfold EqTail at h
 rw [ne_eq,h,List.drop_eq_getElem_cons ha,List.drop_eq_getElem_cons hb]
 simp only [List.cons.injEq,he,false_and,not_false_eq_true]
theorem EqTail.done {α:Type} {a b:List α} {k:Nat} (h:EqTail a b k) (ha:a.length≤k) (hb:b.length≤k):a=b:=by
 unfold EqTail at h
 rw [h,List.drop_eq_nil_of_le ha,List.drop_eq_nil_of_le hb]
theorem eqNodeS_any (v v':Value) (a b:List Nd) (w:World) (hv:NdsAt w v a) (hv':NdsAt w v' b) (hn:a.length≤1048576) (hn':b.length≤1048576) :
  Calls Tryz.prog 118 #[v,v'] w fun e w'=>e=.returned (.bool (decide (a=b)))∧Below w.heap.size w w':=by
 obtain ⟨p,cap,rfl,hc,hat⟩:=hv
 obtain ⟨p',cap',rfl,hc',hat'⟩:=hv'
 by_cases hl:a.length=b.length
 ·have hl1:((a.length:Int) != b.length)=false:=by simp [hl]
  go_enter Tryz.func118,Tryz.ntmps118
  have HL:=Lib.hid hl
  clear hl
  go_wp2
  go_loopw [5] (fun i wr=>∃ k:Nat,k≤a.length∧i=.int .i64 k∧EqTail a b k∧Below w.heap.size w wr) (fun i _=>a.length - (intOf i).toNat)
  case atStart=>exact ⟨0,Nat.zero_le _,rfl,EqTail.zero _ _,Below.refl _ _⟩
  case round =>
   obtain ⟨k,hk,rfl,ht,hbel⟩:=hrel
   by_cases hlt:k<a.length
   ·have hlt':k<b.length:=by have:=HL.out;omega
    obtain ⟨g,o,rfl,_,hnd⟩:=hat k hlt
    obtain ⟨g',o',rfl,_,hnd'⟩:=hat' k hlt'
    obtain ⟨c0,c1,c2⟩:=hnd.keep hbel
    obtain ⟨d0,d1,d2⟩:=hnd'.keep hbel
    clear hat hnd hat' hnd'
    by_cases he:a[k]=b[k]
    ·have he2:decide (a[k]=b[k])=true:=by simp [he]
     have HE:=Lib.hid he
     clear he
     go_wp2_with fail
     go_still_tail 8,(by kernel_rfl)
     go_wp2_with (go_at_call 190;refine (eqNode_any a[k] b[k] _).mono ?_;rintro e w2 ⟨rfl,hb2⟩)
     have hs:=hbel.drew.size
     go_roundw
     case rel=>exact ⟨k+1,by omega,by go_num,ht.step hlt hlt' HE.out,hbel.drew.trans (hb2.mono (by omega))⟩
     case measure=>simp [intOf];omega
    ·have he2:decide (a[k]=b[k])=false:=by simp [he]
     go_wp2_with fail
     go_still_tail 8,(by kernel_rfl)
     go_wp2_with (go_at_call 190;refine (eqNode_any a[k] b[k] _).mono ?_;rintro e w2 ⟨rfl,hb2⟩)
     have hs:=hbel.drew.size
     go_ret
     exact ⟨no_bool (ht.no hlt hlt' he),hbel.drew.trans (hb2.mono (by omega))⟩
   ·go_wp2
    go_ret
    exact ⟨yes_bool (ht.done (by omega) (by have:=HL.out;omega)),hbel⟩
 ·have hl1:((a.length:Int) != b.length)=true:=by simp;omega
  go_enter Tryz.func118,Tryz.ntmps118
  go_wp2
  go_ret
  exact ⟨no_bool fun h=>hl (by rw [h]),Below.refl _ _⟩
theorem eqTerm_any (v v':Value) (a b:List Nd) (w:World) (hv:NdsAt w v a) (hv':NdsAt w v' b) (hn:a.length≤1048576) (hn':b.length≤1048576) :
  Calls Tryz.prog 52 #[.agg #[v],.agg #[v']] w fun e w'=>e=.returned (.bool (decide (a=b)))∧Below w.heap.size w w':=by
 obtain ⟨p,cap,rfl⟩:=hv.slice
 obtain ⟨p',cap',rfl⟩:=hv'.slice
 have hB:∀ o o',Below w.heap.size w ((w.alloc o).alloc o'):=fun o o'=>((Below.refl _ _).alloc (Nat.le_refl _) _).alloc (by simp) _
 by_cases h:a=b
 ·have h1:decide (a=b)=true:=by simp [h]
  have H:=Lib.hid h;clear h
  go_enter Tryz.func52,Tryz.ntmps52
  go_wp2_with (go_at_call 118;refine (eqNodeS_any _ _ a b _ (hv.keep (hB _ _)) (hv'.keep (hB _ _)) hn hn').mono ?_;rintro e w2 ⟨rfl,hb2⟩)
  go_ret
  exact ⟨yes_bool H.out,(hB _ _).trans (hb2.mono (by simp;omega))⟩
 ·have h1:decide (a=b)=false:=by simp [h]
  go_enter Tryz.func52,Tryz.ntmps52
  go_wp2_with (go_at_call 118;refine (eqNodeS_any _ _ a b _ (hv.keep (hB _ _)) (hv'.keep (hB _ _)) hn hn').mono ?_;rintro e w2 ⟨rfl,hb2⟩)
  go_ret
  exact ⟨no_bool h,(hB _ _).trans (hb2.mono (by simp;omega))⟩
end Go.Proofs.YtbljmfcifljkaaaGreatDoor
/-
  Walks of the small functions of terms and names. Own work.
-/
namespace Go.Proofs.YtbljmfcifljkaaaGreatDoor
open Go.RowKit
def inB (n lo hi:Int):Bool:=decide (lo≤n) && decide (n≤hi)
theorem within_any (n lo hi:Int) (w:World) :
  Calls Tryz.prog 128 #[.int .i64 n,.int .i64 lo,.int .i64 hi] w fun e w'=>e=.returned (.bool (inB n lo hi))∧w=w':=by
 go_enter Tryz.func128,Tryz.ntmps128
 go_wp2
 all_goals go_ret
 all_goals exact ⟨ret_bool (by simp [inB];try omega),rfl⟩
theorem l1In_any (n lo hi:Int) (w:World) :
  Calls Tryz.prog 80 #[.int .i64 n,.int .i64 lo,.int .i64 hi] w fun e w'=>e=.returned (.bool (inB n lo hi))∧w=w':=by
 go_enter Tryz.func80,Tryz.ntmps80
 go_wp2
 all_goals go_ret
 all_goals exact ⟨ret_bool (by simp [inB];try omega),rfl⟩
def lowB (b:UInt8):Bool:=decide ((97:Int)≤(b.toNat:Int)) && decide ((b.toNat:Int)≤122)
def digB (b:UInt8):Bool:=decide ((48:Int)≤(b.toNat:Int)) && decide ((b.toNat:Int)≤57)
theorem isLower_any (b:UInt8) (w:World) :
  Calls Tryz.prog 173 #[.int .u8 b.toNat] w fun e w'=>e=.returned (.bool (lowB b))∧w=w':=by
 go_enter Tryz.func173,Tryz.ntmps173
 go_wp2
 all_goals go_ret
 all_goals exact ⟨ret_bool (by first|(simp_all [lowB];done)|(simp_all [lowB];omega)),rfl⟩
theorem isDigit_any (b:UInt8) (w:World) :
  Calls Tryz.prog 174 #[.int .u8 b.toNat] w fun e w'=>e=.returned (.bool (digB b))∧w=w':=by
 go_enter Tryz.func174,Tryz.ntmps174
 go_wp2
 all_goals go_ret
 all_goals exact ⟨ret_bool (by first|(simp_all [digB];done)|(simp_all [digB];omega)),rfl⟩
def valB (k:Int):Bool:=(k == 7) || (k == 13)
theorem hasValue_any (k:Int) (w:World) :
  Calls Tryz.prog 191 #[.int .i64 k] w fun e w'=>e=.returned (.bool (valB k))∧w=w':=by
 go_enter Tryz.func191,Tryz.ntmps191
 go_wp2
 all_goals go_ret
 all_goals exact ⟨ret_bool (by simp_all [valB]),rfl⟩
theorem isGenerator_any (k:Int) (w:World) :
  Calls Tryz.prog 242 #[.int .i64 k] w fun e w'=>e=.returned (.bool (inB k 3 14))∧w=w':=by
 go_enter Tryz.func242,Tryz.ntmps242
 go_wp2_with (go_at_call 128;refine (within_any _ _ _ _).mono ?_;rintro e w2 ⟨rfl,rfl⟩)
 go_ret
 exact ⟨rfl,rfl⟩
def genValB (k v:Int):Bool:=if valB k then inB v 0 96 else (v == 0)
theorem isGeneratorValue_any (k v:Int) (w:World) :
  Calls Tryz.prog 244 #[.int .i64 k,.int .i64 v] w fun e w'=>e=.returned (.bool (genValB k v))∧w=w':=by
 cases hk:valB k
 all_goals
  go_enter Tryz.func244,Tryz.ntmps244
  go_wp2_with (first|(go_at_call 191;refine (hasValue_any _ _).mono ?_;rintro e w2 ⟨rfl,rfl⟩)|(go_at_call 128;refine (within_any _ _ _ _).mono ?_;rintro e w2 ⟨rfl,rfl⟩))
  go_ret
  exact ⟨by simp [genValB,hk],rfl⟩
theorem fit_any (a b:Int) (w:World) :
  Calls Tryz.prog 241 #[.agg #[.int .i64 a,.int .i64 b]] w fun e w'=>e=.returned (.bool (decide (a≤12) && decide (b≤12)))∧Below w.heap.size w w':=by
 go_enter Tryz.func241,Tryz.ntmps241
 go_wp2
 all_goals go_ret
 all_goals exact ⟨ret_bool (by first|(simp_all;done)|(simp_all;omega)),(Below.refl _ _).alloc (Nat.le_refl _) _⟩
theorem tmKind_any (k:Int) (w:World) :
  Calls Tryz.prog 169 #[.int .i64 k] w fun e w'=>e=.returned (.tuple #[.int .i64 (kindW k).1,.int .i64 (kindW k).2])∧w=w':=by
 go_enter Tryz.func169,Tryz.ntmps169
 go_wp2
 all_goals go_ret2
 all_goals exact ⟨by simp_all [kindW],rfl⟩
end Go.Proofs.YtbljmfcifljkaaaGreatDoor
/-
  Walks of the functions on names and on finding definitions. Own work.
-/
namespace Go.Proofs.YtbljmfcifljkaaaGreatDoor
open Go.RowKit
def reserved:List ByteArray:=[⟨#[105,100]⟩,⟨#[115,119,97,112]⟩,⟨#[99,111,112,121]⟩,⟨#[100,105,115,99,97,114,100]⟩,⟨#[97,100,100]⟩,⟨#[122,101,114,111]⟩,⟨#[115,99,97,108,101]⟩,⟨#[100,101,108,97,121]⟩,
 ⟨#[99,111,99,111,112,121]⟩,⟨#[99,111,100,105,115,99,97,114,100]⟩,⟨#[99,111,97,100,100]⟩,⟨#[99,111,122,101,114,111]⟩,⟨#[99,111,115,99,97,108,101]⟩,⟨#[99,111,100,101,108,97,121]⟩]
def kwords:List ByteArray:=⟨#[]⟩ :: reserved
def StrsAt (w:World) (v:Value) (ss:List ByteArray):Prop:=SlAt 1 v ss.length fun i b o=>∃ h:i<ss.length,w.cell? ⟨b,o,none⟩=some (.string ss[i])
theorem StrsAt.keep {w w':World} (hb:Below w.heap.size w w') {v:Value} {ns:List ByteArray} (h:StrsAt w v ns):StrsAt w' v ns :=
 SlAt.mono h fun _ _ _ ⟨hi,r⟩=>⟨hi,cell_keep hb r⟩
theorem strs_made (w:World) (ss:List ByteArray) (t:TypeId):StrsAt (w.alloc (.cells (ss.map Value.string).toArray t)) (.slice (some ⟨w.heap.size,0,none⟩) ss.length ss.length) ss:=by
 refine ⟨_,_,rfl,Nat.le_refl _,fun i hi=>⟨_,_,rfl,hi,?_⟩⟩
 have h1:(w.alloc (.cells (ss.map Value.string).toArray t)).heap[w.heap.size]?=some (.cells (ss.map Value.string).toArray t):=heap_alloc_new w _
 have h2:(⟨w.heap.size,0+i * 1,none⟩:Addr)=⟨w.heap.size,i,none⟩:=by simp
 rw [h2,cell_of_row _ w.heap.size i _ _ _ h1]
 simp [hi]
theorem lbReserved_any (w:World) :
  Calls Tryz.prog 231 #[] w fun e w'=>∃ n:Nat,e=.returned (.slice (some ⟨w.heap.size,0,none⟩) n n)∧n≤14∧14≤n∧StrsAt w' (.slice (some ⟨w.heap.size,0,none⟩) n n) reserved∧Below w.heap.size w w'∧w.heap.size<w'.heap.size:=by
 go_enter Tryz.func231,Tryz.ntmps231
 go_wp2
 go_ret
 exact ⟨14,rfl,Nat.le_refl _,Nat.le_refl _,strs_made w reserved _,(Below.refl _ _).alloc (Nat.le_refl _) _,by simp⟩
theorem kindWords_any (w:World) :
  Calls Tryz.prog 245 #[] w fun e w'=>∃ n:Nat,e=.returned (.slice (some ⟨w.heap.size,0,none⟩) n n)∧n≤15∧15≤n∧StrsAt w' (.slice (some ⟨w.heap.size,0,none⟩) n n) kwords∧Below w.heap.size w w'∧w.heap.size<w'.heap.size:=by
 go_enter Tryz.func245,Tryz.ntmps245
 go_wp2
 go_ret
 exact ⟨15,rfl,Nat.le_refl _,Nat.le_refl _,strs_made w kwords _,(Below.refl _ _).alloc (Nat.le_refl _) _,by simp⟩
def wordFrom (s:ByteArray) (d:Int):List ByteArray → Nat → Int
 | [],_=>d
 | x :: r,k=>if x=s then k else wordFrom s d r (k+1)
def kindOfW (s:ByteArray):Int:=wordFrom s 17 kwords 0
theorem kindOf_any (s:ByteArray) (w:World) :
  Calls Tryz.prog 185 #[.string s] w fun e w'=>e=.returned (.int .i64 (kindOfW s))∧Below w.heap.size w w':=by
 go_enter Tryz.func185,Tryz.ntmps185
 go_wp2_with (go_at_call 245;refine (kindWords_any _).mono ?_;rintro e w1 ⟨n,rfl,hn1,hn2,hst,hb1,hs1⟩)
 obtain ⟨a,cap,ha,hc,hat⟩:=hst
 simp only [Value.slice.injEq,Option.some.injEq] at ha
 obtain ⟨rfl,hn3,rfl⟩:=ha
 clear hn3
 have hl:kwords.length=15:=rfl
 go_loopw [7] (fun i wr=>∃ k:Nat,k≤n∧i=.int .i64 k∧Hid (kindOfW s=wordFrom s 17 (kwords.drop k) k)∧Below w1.heap.size w1 wr) (fun i _=>n - (intOf i).toNat)
 case atStart=>exact ⟨0,by omega,rfl,(show Hid _ from (rfl:kindOfW s=_)),Below.refl _ _⟩
 case round =>
  obtain ⟨k,hk,rfl,HF,hbel⟩:=hrel
  by_cases hlt:k<n
  ·obtain ⟨b,o,hbo,_,hnd⟩:=hat k (by omega)
   simp only [Option.some.injEq,Addr.mk.injEq] at hbo
   obtain ⟨rfl,rfl,_⟩:=hbo
   have c0:=cell_keep hbel hnd
   simp only [Nat.zero_add,Nat.mul_one] at c0
   have hsz:=hbel.size
   clear hat hnd
   have hkl:k<kwords.length:=by omega
   by_cases he:kwords[k]=s
   ·have g1:(kwords[k].toList == s.toList)=true:=by rw [str_beq];simp [he]
    have HK:Hid (kindOfW s=k):=by
     show kindOfW s=k
     rw [HF.out,List.drop_eq_getElem_cons hkl,wordFrom,if_pos he]
    clear he
    go_wp2
    go_ret
    exact ⟨ret_int HK.out.symm,hb1.trans (hbel.mono (by omega))⟩
   ·have g1:(kwords[k].toList == s.toList)=false:=by rw [str_beq];simp [he]
    have HK:Hid (kindOfW s=wordFrom s 17 (kwords.drop (k+1)) (k+1)):=by
     show kindOfW s=_
     rw [HF.out,List.drop_eq_getElem_cons hkl,wordFrom,if_neg he]
    clear he
    go_wp2
    go_roundw
    case rel=>exact ⟨k+1,by omega,by go_num,HK,hbel⟩
    case measure=>simp [intOf];omega
  ·go_wp2
   go_ret
   have hkk:k=15:=by omega
   rw [hkk] at HF
   exact ⟨ret_int HF.out.symm,hb1.trans (hbel.mono (by omega))⟩
def lodB (b:UInt8):Bool:=lowB b || digB b
def restB (s:ByteArray) (k:Nat):Bool:=(s.data.toList.drop k).all lodB
theorem restB_step (s:ByteArray) (k:Nat) (h:k<s.size):restB s k=(lodB s[k] && restB s (k+1)):=by
 unfold restB
 rw [List.drop_eq_getElem_cons (by simpa using h),List.all_cons]
 rfl
theorem restB_end (s:ByteArray) (k:Nat) (h:s.size≤k):restB s k=true:=by
 unfold restB
 rw [List.drop_eq_nil_of_le (by simpa using h)]
 rfl
def wordB (s:ByteArray):Bool:=if h:1≤s.size∧s.size≤8 then lowB (s[0]'(by omega)) && restB s 1 else false
theorem wordB_no {s:ByteArray} (h:¬ (1≤s.size∧s.size≤8)):wordB s=false:=by unfold wordB;rw [dif_neg h]
theorem wordB_low {s:ByteArray} (h:1≤s.size∧s.size≤8) (hl:lowB (s[0]'(by omega))=false):wordB s=false:=by unfold wordB;rw [dif_pos h,hl];rfl
theorem wordB_rest {s:ByteArray} (h:1≤s.size∧s.size≤8) (hl:lowB (s[0]'(by omega))=true):wordB s=restB s 1:=by unfold wordB;rw [dif_pos h,hl];rfl
theorem wordB_rest0 {s:ByteArray} (h:1≤s.size∧s.size≤8) (hl:lowB (s[0]'(by omega))=true):wordB s=restB s 0:=by rw [wordB_rest h hl,restB_step s 0 (by omega)];simp [lodB,hl]
def nameB (s:ByteArray):Bool:=wordB s && decide (kindOfW s=17)
theorem isName_any (s:ByteArray) (w:World) (hs:s.size≤1048576) :
  Calls Tryz.prog 116 #[.string s] w fun e w'=>e=.returned (.bool (nameB s))∧Below w.heap.size w w':=by
 by_cases hsz:1≤s.size∧s.size≤8
 ·have h0:0<s.size:=by omega
  have g1:inB s.size 1 8=true:=by simp [inB];omega
  cases hl:lowB s[0] with
  | false =>
   go_enter Tryz.func116,Tryz.ntmps116
   go_wp2_with (first|(go_at_call 128;refine (within_any _ _ _ _).mono ?_;rintro e w1 ⟨rfl,rfl⟩)|(go_at_call 173;refine (isLower_any _ _).mono ?_;rintro e w1 ⟨rfl,rfl⟩))
   go_ret
   exact ⟨ret_bool (by simp [nameB,wordB_low hsz hl]),Below.refl _ _⟩
  | true =>
   by_cases hk:kindOfW s=17
   ·have g2:(kindOfW s != 17)=false:=by simp [hk]
    have HF0:Hid (nameB s=restB s 0):=(show nameB s=restB s 0 by simp [nameB,hk,wordB_rest0 hsz hl])
    clear hk
    go_enter Tryz.func116,Tryz.ntmps116
    go_wp2_with (first|(go_at_call 128;refine (within_any _ _ _ _).mono ?_;rintro e w1 ⟨rfl,rfl⟩)|(go_at_call 173;refine (isLower_any _ _).mono ?_;rintro e w1 ⟨rfl,rfl⟩)|(go_at_call 185;refine (kindOf_any _ _).mono ?_;rintro e w1 ⟨rfl,hb1⟩))
    go_loopw [21] (fun i wr=>∃ k:Nat,k≤s.size∧i=.int .i64 k∧Hid (nameB s=restB s k)∧Below w.heap.size w wr) (fun i _=>s.size - (intOf i).toNat)
    case atStart=>exact ⟨0,by omega,rfl,HF0,hb1⟩
    case round =>
     obtain ⟨k,hk,rfl,HF,hbel⟩:=hrel
     clear HF0 hb1
     by_cases hlt:k<s.size
     ·have hst:=restB_step s k hlt
      cases q1:lowB s[k] <;> cases q2:digB s[k]
      all_goals
       have HK:=Lib.hid (HF.out.trans hst)
       simp only [lodB,q1,q2,Bool.or_false,Bool.or_true,Bool.false_and,Bool.true_and] at HK
       clear hst HF
       go_wp2_with (first|(go_at_call 173;refine (isLower_any _ _).mono ?_;rintro e w1 ⟨rfl,rfl⟩)|(go_at_call 174;refine (isDigit_any _ _).mono ?_;rintro e w1 ⟨rfl,rfl⟩))
      ·go_ret
       exact ⟨ret_bool (by have:=HK.out;simpa [lodB,q1,q2] using this.symm),hbel⟩
      all_goals
       go_roundw
       case rel=>exact ⟨k+1,by omega,by go_num,(show nameB s=_ by have:=HK.out;simpa [lodB,q1,q2] using this),hbel⟩
       case measure=>simp [intOf];omega
     ·go_wp2
      go_ret
      exact ⟨ret_bool (by rw [HF.out,restB_end s k (by omega)]),hbel⟩
   ·have g2:(kindOfW s != 17)=true:=by simp [hk]
    go_enter Tryz.func116,Tryz.ntmps116
    go_wp2_with (first|(go_at_call 128;refine (within_any _ _ _ _).mono ?_;rintro e w1 ⟨rfl,rfl⟩)|(go_at_call 173;refine (isLower_any _ _).mono ?_;rintro e w1 ⟨rfl,rfl⟩)|(go_at_call 185;refine (kindOf_any _ _).mono ?_;rintro e w1 ⟨rfl,hb1⟩))
    go_ret
    exact ⟨ret_bool (by simp [nameB,hk]),hb1⟩
 ·have g1:inB s.size 1 8=false:=by simp [inB];omega
  go_enter Tryz.func116,Tryz.ntmps116
  go_wp2_with (go_at_call 128;refine (within_any _ _ _ _).mono ?_;rintro e w1 ⟨rfl,rfl⟩)
  go_ret
  exact ⟨ret_bool (by simp [nameB,wordB_no hsz]),Below.refl _ _⟩
end Go.Proofs.YtbljmfcifljkaaaGreatDoor
/-
  Worlds that differ in some blocks only. Own work.
-/
namespace Go.Proofs.YtbljmfcifljkaaaGreatDoor
open Go.RowKit
theorem Exc.trans {T:Nat → Prop} {w0 w1 w2:World} (h:Exc T w0 w1) (h':Exc T w1 w2):Exc T w0 w2 :=
 ⟨h'.os.trans h.os,h'.tape.trans h.tape,h'.output.trans h.output,Nat.le_trans h.size h'.size,fun k hk ht=>(h'.block k (Nat.lt_of_lt_of_le hk h.size) ht).trans (h.block k hk ht)⟩
theorem Exc.mono {T T':Nat → Prop} {w0 w1:World} (h:Exc T w0 w1) (ht:∀ k,T k → T' k):Exc T' w0 w1 :=
 ⟨h.os,h.tape,h.output,h.size,fun k hk hn=>h.block k hk (fun h'=>hn (ht k h'))⟩
theorem owns_exc {T:Nat → Prop} {w w':World} {B e sz:Nat} {v:Value} {n:Nat} {xs:List Value} (hE:Exc T w w') (h:w.ownsRow B e sz v n xs) (hT:∀ k,v.ownBlock=some k → ¬ T k):w'.ownsRow B e sz v n xs:=by
 refine ⟨h.1,?_⟩
 rcases h.2 with hn|⟨g,cap,cur,rfl,hbb,hgg,rest⟩
 ·exact .inl hn
 ·exact .inr ⟨g,cap,cur,rfl,hbb,(hE.block g (Array.getElem?_eq_some_iff.1 hgg).1 (hT g rfl)).trans hgg,rest⟩
def Own1 (v:Value):Nat → Prop:=fun k=>v.ownBlock=some k
end Go.Proofs.YtbljmfcifljkaaaGreatDoor
