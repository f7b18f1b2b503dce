/-
  The laws' copies of their arguments: new memory that reads as the argument does. Own work.
-/
import Derived.Test.YtbljmfcifljkaaaGreatDoorProg
import Derived.Test.YtbljmfcifljkaaaGreatDoorUA
import Derived.WalkLawsBesides
import Derived.WalkSpells
import Derived.Test.YtbljmfcifljkaaaGreatDoorUB
import Derived.StillTailTactics
import Derived.WideShapes
import Derived.Deep.QuietTactic
import Derived.BigQuiet
import Derived.Deep.RegionWith
set_option linter.all false
set_option maxRecDepth 100000
set_option maxHeartbeats 8000000
namespace Go.Proofs.YtbljmfcifljkaaaGreatDoor
open Go.RowKit
theorem info170:(Tryz.prog.info? 144).map (fun i=>(i.zero,i.size,i.bytes))=some (some (.agg #[.int .i64 0,.int .i64 0,.string ⟨#[]⟩]),3,32):=by kernel_rfl
theorem NdsOwn.setLow {w:World} {B:Nat} {v:Value} {ns:List Nd} (h:NdsOwn w B v ns) {a:Addr} (ha:a.block<B) (u:Value):NdsOwn (w.setCell a u) B v ns:=ownsRow_setCell_below h ha u
theorem pairwise_snoc {α:Type} {R:α → α → Prop} {l:List α} {x:α} (h:l.Pairwise R) (hx:∀ y ∈ l,R y x):(l ++ [x]).Pairwise R:=by
 rw [List.pairwise_append]
 exact ⟨h,by simp,by simpa using hx⟩
end Go.Proofs.YtbljmfcifljkaaaGreatDoor
/-
  Own rows of definitions that grow by append. Own work.
-/
namespace Go.Proofs.YtbljmfcifljkaaaGreatDoor
open Go.RowKit
theorem owns_shape' {w:World} {B e sz:Nat} {v:Value} {n:Nat} {xs:List Value} (h:w.ownsRow B e sz v n xs):∃ ao cp,v=.slice ao n cp:=by
 rcases h.2 with ⟨rfl,rfl⟩|⟨g,cap,cur,rfl,_⟩
 ·exact ⟨_,_,rfl⟩
 ·exact ⟨_,_,rfl⟩
theorem owns_some' {w:World} {B e sz:Nat} {v:Value} {n:Nat} {xs:List Value} (h:w.ownsRow B e sz v n xs) (hn:0<n):∃ g cp,v=.slice (some ⟨g,0,none⟩) n cp∧n≤cp∧cp≤maxLen∧B≤g∧g<w.heap.size:=by
 have h':=h
 rcases h.2 with ⟨rfl,rfl⟩|⟨g,cap,cur,rfl,hb,hg,hc,hm,_⟩
 ·omega
 ·exact ⟨g,cap,rfl,hc,hm,hb,(World.ownsRow.lt h' g rfl).2⟩
def DfsRow (w:World) (B:Nat) (v:Value) (xs:List (Df × Value)):Prop :=
 w.ownsRow B 151 4 v xs.length (xs.flatMap dfCells)∧(∀ x ∈ xs,NdsOwn w B x.2 x.1.body)∧xs.Pairwise fun x y=>Apart x.2 y.2
theorem DfsRow.own {w:World} {B:Nat} {v:Value} {xs:List (Df × Value)} (h:DfsRow w B v xs):DfsOwn w B v (xs.map Prod.fst):=⟨xs,rfl,h⟩
theorem DfsOwn.row {w:World} {B:Nat} {v:Value} {L:List Df} (h:DfsOwn w B v L):∃ xs:List (Df × Value),xs.map Prod.fst=L∧DfsRow w B v xs:=h
theorem DfsRow.keep {w w':World} {B:Nat} {v:Value} {xs:List (Df × Value)} (hb:Below w.heap.size w w') (h:DfsRow w B v xs):DfsRow w' B v xs :=
 ⟨owns_keep hb h.1,fun x hx=>(h.2.1 x hx).keep hb,h.2.2⟩
theorem DfsRow.mono {w:World} {B B':Nat} {v:Value} {xs:List (Df × Value)} (hB:B'≤B) (h:DfsRow w B v xs):DfsRow w B' v xs:=⟨owns_mono hB h.1,fun x hx=>(h.2.1 x hx).mono hB,h.2.2⟩
theorem DfsRow.at {w:World} {B:Nat} {v:Value} {xs:List (Df × Value)} (h:DfsRow w B v xs):DfsAt w v (xs.map Prod.fst):=h.own.at
theorem DfsRow.shape {w:World} {B:Nat} {v:Value} {xs:List (Df × Value)} (h:DfsRow w B v xs) (n:Nat) (hn:xs.length=n):∃ ao cp,v=.slice ao n cp:=by
 subst hn;exact owns_shape' h.1
theorem nds_grown {w w':World} {B:Nat} {v:Value} {ns:List Nd} {row:Option Nat} (h:NdsOwn w B v ns) (hg:w.grownBy w' row) (hne:∀ k,v.ownBlock=some k → row ≠ some k):NdsOwn w' B v ns:=by
 refine World.ownsRow.kept h hg ?_
 cases hv:v.ownBlock with
 | none=>exact .inl rfl
 | some k=>exact .inr (fun e=>hne k hv e.symm)
theorem DfsRow.snoc {w w':World} {B:Nat} {v v' vb:Value} {xs:List (Df × Value)} {d:Df} (h:DfsRow w B v xs) (hvb:NdsOwn w B vb d.body) (hap:∀ x ∈ xs,Apart x.2 vb)
  (hown:w'.ownsRow B 151 4 v' (xs.length+1) (xs.flatMap dfCells ++ dfCells (d,vb))) (hg:w.grownBy w' v.ownBlock):DfsRow w' B v' (xs ++ [(d,vb)]):=by
 have ne:∀ (u:Value) ns,NdsOwn w B u ns → ∀ k,u.ownBlock=some k → v.ownBlock ≠ some k:=fun u ns hu k hk=>owns_ne hu h.1 (by decide) k hk
 refine ⟨?_,?_,pairwise_snoc h.2.2 hap⟩
 ·simpa [List.flatMap_append] using hown
 ·intro x hx
  rcases List.mem_append.1 hx with hx|hx
  ·exact nds_grown (h.2.1 x hx) hg (ne _ _ (h.2.1 x hx))
  ·simp at hx;subst hx
   exact nds_grown hvb hg (ne _ _ hvb)
end Go.Proofs.YtbljmfcifljkaaaGreatDoor
/-
  The laws' comparisons: true exactly if the data are equal. Own work.
-/
namespace Go.Proofs.YtbljmfcifljkaaaGreatDoor
open Go.RowKit
theorem str_beq (a b:ByteArray):(a.toList == b.toList)=decide (a=b):=by
 rw [ByteArray.toList_eq,ByteArray.toList_eq,Bool.eq_iff_iff];simp only [beq_iff_eq,decide_eq_true_eq]
 exact ⟨fun h=>WideShapes.bytes_inj h,fun h=>by rw [h]⟩
def EqTail {α:Type} (a b:List α) (k:Nat):Prop:=a=b ↔ a.drop k=b.drop k
theorem EqTail.zero {α:Type} (a b:List α):EqTail a b 0:=by simp [EqTail]
theorem EqTail.step {α:Type} {a b:List α} {k:Nat} (h:EqTail a b k) (ha:k<a.length) (hb:k<b.length) (he:a[k]=b[k]):EqTail a b (k+1):=by
 unfold EqTail at *
 rw [h,List.drop_eq_getElem_cons ha,List.drop_eq_getElem_cons hb,he]
 simp only [List.cons.injEq,true_and]
theorem EqTail.no {α:Type} {a b:List α} {k:Nat} (h:EqTail a b k) (ha:k<a.length) (hb:k<b.length) (he:a[k] ≠ b[k]):a ≠ b:=by
 unfold EqTail at h
 rw [ne_eq,h,List.drop_eq_getElem_cons ha,List.drop_eq_getElem_cons hb]
 simp only [List.cons.injEq,he,false_and,not_false_eq_true]
theorem EqTail.done {α:Type} {a b:List α} {k:Nat} (h:EqTail a b k) (ha:a.length≤k) (hb:b.length≤k):a=b:=by
 unfold EqTail at h
 rw [h,List.drop_eq_nil_of_le ha,List.drop_eq_nil_of_le hb]
end Go.Proofs.YtbljmfcifljkaaaGreatDoor
/-
  Walks of the small functions of terms and names. Own work.
-/
namespace Go.Proofs.YtbljmfcifljkaaaGreatDoor
open Go.RowKit
def inB (n lo hi:Int):Bool:=decide (lo≤n) && decide (n≤hi)
theorem within_any (n lo hi:Int) (w:World) :
  Calls Tryz.prog 128 #[.int .i64 n,.int .i64 lo,.int .i64 hi] w fun e w'=>e=.returned (.bool (inB n lo hi))∧w=w':=by
 go_enter Tryz.func128,Tryz.ntmps128
 go_wp2
 all_goals go_ret
 all_goals exact ⟨ret_bool (by simp [inB];try omega),rfl⟩
theorem l1In_any (n lo hi:Int) (w:World) :
  Calls Tryz.prog 80 #[.int .i64 n,.int .i64 lo,.int .i64 hi] w fun e w'=>e=.returned (.bool (inB n lo hi))∧w=w':=by
 go_enter Tryz.func80,Tryz.ntmps80
 go_wp2
 all_goals go_ret
 all_goals exact ⟨ret_bool (by simp [inB];try omega),rfl⟩
def lowB (b:UInt8):Bool:=decide ((97:Int)≤(b.toNat:Int)) && decide ((b.toNat:Int)≤122)
def digB (b:UInt8):Bool:=decide ((48:Int)≤(b.toNat:Int)) && decide ((b.toNat:Int)≤57)
theorem isLower_any (b:UInt8) (w:World) :
  Calls Tryz.prog 173 #[.int .u8 b.toNat] w fun e w'=>e=.returned (.bool (lowB b))∧w=w':=by
 go_enter Tryz.func173,Tryz.ntmps173
 go_wp2
 all_goals go_ret
 all_goals exact ⟨ret_bool (by first|(simp_all [lowB];done)|(simp_all [lowB];omega)),rfl⟩
theorem isDigit_any (b:UInt8) (w:World) :
  Calls Tryz.prog 174 #[.int .u8 b.toNat] w fun e w'=>e=.returned (.bool (digB b))∧w=w':=by
 go_enter Tryz.func174,Tryz.ntmps174
 go_wp2
 all_goals go_ret
 all_goals exact ⟨ret_bool (by first|(simp_all [digB];done)|(simp_all [digB];omega)),rfl⟩
def valB (k:Int):Bool:=(k == 7) || (k == 13)
theorem hasValue_any (k:Int) (w:World) :
  Calls Tryz.prog 191 #[.int .i64 k] w fun e w'=>e=.returned (.bool (valB k))∧w=w':=by
 go_enter Tryz.func191,Tryz.ntmps191
 go_wp2
 all_goals go_ret
 all_goals exact ⟨ret_bool (by simp_all [valB]),rfl⟩
theorem isGenerator_any (k:Int) (w:World) :
  Calls Tryz.prog 242 #[.int .i64 k] w fun e w'=>e=.returned (.bool (inB k 3 14))∧w=w':=by
 go_enter Tryz.func242,Tryz.ntmps242
 go_wp2_with (go_at_call 128;refine (within_any _ _ _ _).mono ?_;rintro e w2 ⟨rfl,rfl⟩)
 go_ret
 exact ⟨rfl,rfl⟩
def genValB (k v:Int):Bool:=if valB k then inB v 0 96 else (v == 0)
theorem isGeneratorValue_any (k v:Int) (w:World) :
  Calls Tryz.prog 244 #[.int .i64 k,.int .i64 v] w fun e w'=>e=.returned (.bool (genValB k v))∧w=w':=by
 cases hk:valB k
 all_goals
  go_enter Tryz.func244,Tryz.ntmps244
  go_wp2_with (first|(go_at_call 191;refine (hasValue_any _ _).mono ?_;rintro e w2 ⟨rfl,rfl⟩)|(go_at_call 128;refine (within_any _ _ _ _).mono ?_;rintro e w2 ⟨rfl,rfl⟩))
  go_ret
  exact ⟨by simp [genValB,hk],rfl⟩
theorem fit_any (a b:Int) (w:World) :
  Calls Tryz.prog 241 #[.agg #[.int .i64 a,.int .i64 b]] w fun e w'=>e=.returned (.bool (decide (a≤12) && decide (b≤12)))∧Below w.heap.size w w':=by
 go_enter Tryz.func241,Tryz.ntmps241
 go_wp2
 all_goals go_ret
 all_goals exact ⟨ret_bool (by first|(simp_all;done)|(simp_all;omega)),(Below.refl _ _).alloc (Nat.le_refl _) _⟩
theorem tmKind_any (k:Int) (w:World) :
  Calls Tryz.prog 169 #[.int .i64 k] w fun e w'=>e=.returned (.tuple #[.int .i64 (kindW k).1,.int .i64 (kindW k).2])∧w=w':=by
 go_enter Tryz.func169,Tryz.ntmps169
 go_wp2
 all_goals go_ret2
 all_goals exact ⟨by simp_all [kindW],rfl⟩
end Go.Proofs.YtbljmfcifljkaaaGreatDoor
/-
  Walks of the functions on names and on finding definitions. Own work.
-/
namespace Go.Proofs.YtbljmfcifljkaaaGreatDoor
open Go.RowKit
def reserved:List ByteArray:=[⟨#[105,100]⟩,⟨#[115,119,97,112]⟩,⟨#[99,111,112,121]⟩,⟨#[100,105,115,99,97,114,100]⟩,⟨#[97,100,100]⟩,⟨#[122,101,114,111]⟩,⟨#[115,99,97,108,101]⟩,⟨#[100,101,108,97,121]⟩,
 ⟨#[99,111,99,111,112,121]⟩,⟨#[99,111,100,105,115,99,97,114,100]⟩,⟨#[99,111,97,100,100]⟩,⟨#[99,111,122,101,114,111]⟩,⟨#[99,111,115,99,97,108,101]⟩,⟨#[99,111,100,101,108,97,121]⟩]
def kwords:List ByteArray:=⟨#[]⟩ :: reserved
def StrsAt (w:World) (v:Value) (ss:List ByteArray):Prop:=SlAt 1 v ss.length fun i b o=>∃ h:i<ss.length,w.cell? ⟨b,o,none⟩=some (.string ss[i])
theorem StrsAt.keep {w w':World} (hb:Below w.heap.size w w') {v:Value} {ns:List ByteArray} (h:StrsAt w v ns):StrsAt w' v ns :=
 SlAt.mono h fun _ _ _ ⟨hi,r⟩=>⟨hi,cell_keep hb r⟩
theorem strs_made (w:World) (ss:List ByteArray) (t:TypeId):StrsAt (w.alloc (.cells (ss.map Value.string).toArray t)) (.slice (some ⟨w.heap.size,0,none⟩) ss.length ss.length) ss:=by
 refine ⟨_,_,rfl,Nat.le_refl _,fun i hi=>⟨_,_,rfl,hi,?_⟩⟩
 have h1:(w.alloc (.cells (ss.map Value.string).toArray t)).heap[w.heap.size]?=some (.cells (ss.map Value.string).toArray t):=heap_alloc_new w _
 have h2:(⟨w.heap.size,0+i * 1,none⟩:Addr)=⟨w.heap.size,i,none⟩:=by simp
 rw [h2,cell_of_row _ w.heap.size i _ _ _ h1]
 simp [hi]
theorem kindWords_any (w:World) :
  Calls Tryz.prog 245 #[] w fun e w'=>∃ n:Nat,e=.returned (.slice (some ⟨w.heap.size,0,none⟩) n n)∧n≤15∧15≤n∧StrsAt w' (.slice (some ⟨w.heap.size,0,none⟩) n n) kwords∧Below w.heap.size w w'∧w.heap.size<w'.heap.size:=by
 go_enter Tryz.func245,Tryz.ntmps245
 go_wp2
 go_ret
 exact ⟨15,rfl,Nat.le_refl _,Nat.le_refl _,strs_made w kwords _,(Below.refl _ _).alloc (Nat.le_refl _) _,by simp⟩
def wordFrom (s:ByteArray) (d:Int):List ByteArray → Nat → Int
 | [],_=>d
 | x :: r,k=>if x=s then k else wordFrom s d r (k+1)
def kindOfW (s:ByteArray):Int:=wordFrom s 17 kwords 0
theorem kindOf_any (s:ByteArray) (w:World) :
  Calls Tryz.prog 185 #[.string s] w fun e w'=>e=.returned (.int .i64 (kindOfW s))∧Below w.heap.size w w':=by
 go_enter Tryz.func185,Tryz.ntmps185
 go_wp2_with (go_at_call 245;refine (kindWords_any _).mono ?_;rintro e w1 ⟨n,rfl,hn1,hn2,hst,hb1,hs1⟩)
 obtain ⟨a,cap,ha,hc,hat⟩:=hst
 simp only [Value.slice.injEq,Option.some.injEq] at ha
 obtain ⟨rfl,hn3,rfl⟩:=ha
 clear hn3
 have hl:kwords.length=15:=rfl
 go_loopw [7] (fun i wr=>∃ k:Nat,k≤n∧i=.int .i64 k∧Hid (kindOfW s=wordFrom s 17 (kwords.drop k) k)∧Below w1.heap.size w1 wr) (fun i _=>n - (intOf i).toNat)
 case atStart=>exact ⟨0,by omega,rfl,(show Hid _ from (rfl:kindOfW s=_)),Below.refl _ _⟩
 case round =>
  obtain ⟨k,hk,rfl,HF,hbel⟩:=hrel
  by_cases hlt:k<n
  ·obtain ⟨b,o,hbo,_,hnd⟩:=hat k (by omega)
   simp only [Option.some.injEq,Addr.mk.injEq] at hbo
   obtain ⟨rfl,rfl,_⟩:=hbo
   have c0:=cell_keep hbel hnd
   simp only [Nat.zero_add,Nat.mul_one] at c0
   have hsz:=hbel.size
   clear hat hnd
   have hkl:k<kwords.length:=by omega
   by_cases he:kwords[k]=s
   ·have g1:(kwords[k].toList == s.toList)=true:=by rw [str_beq];simp [he]
    have HK:Hid (kindOfW s=k):=by
     show kindOfW s=k
     rw [HF.out,List.drop_eq_getElem_cons hkl,wordFrom,if_pos he]
    clear he
    go_wp2
    go_ret
    exact ⟨ret_int HK.out.symm,hb1.trans (hbel.mono (by omega))⟩
   ·have g1:(kwords[k].toList == s.toList)=false:=by rw [str_beq];simp [he]
    have HK:Hid (kindOfW s=wordFrom s 17 (kwords.drop (k+1)) (k+1)):=by
     show kindOfW s=_
     rw [HF.out,List.drop_eq_getElem_cons hkl,wordFrom,if_neg he]
    clear he
    go_wp2
    go_roundw
    case rel=>exact ⟨k+1,by omega,by go_num,HK,hbel⟩
    case measure=>simp [intOf];omega
  ·go_wp2
   go_ret
   have hkk:k=15:=by omega
   rw [hkk] at HF
   exact ⟨ret_int HF.out.symm,hb1.trans (hbel.mono (by omega))⟩
def lodB (b:UInt8):Bool:=lowB b || digB b
def restB (s:ByteArray) (k:Nat):Bool:=(s.data.toList.drop k).all lodB
def wordB (s:ByteArray):Bool:=if h:1≤s.size∧s.size≤8 then lowB (s[0]'(by omega)) && restB s 1 else false
def nameB (s:ByteArray):Bool:=wordB s && decide (kindOfW s=17)
end Go.Proofs.YtbljmfcifljkaaaGreatDoor
/-
  Worlds that differ in some blocks only. Own work.
-/
namespace Go.Proofs.YtbljmfcifljkaaaGreatDoor
open Go.RowKit
theorem Exc.trans {T:Nat → Prop} {w0 w1 w2:World} (h:Exc T w0 w1) (h':Exc T w1 w2):Exc T w0 w2 :=
 ⟨h'.os.trans h.os,h'.tape.trans h.tape,h'.output.trans h.output,Nat.le_trans h.size h'.size,fun k hk ht=>(h'.block k (Nat.lt_of_lt_of_le hk h.size) ht).trans (h.block k hk ht)⟩
theorem Exc.mono {T T':Nat → Prop} {w0 w1:World} (h:Exc T w0 w1) (ht:∀ k,T k → T' k):Exc T' w0 w1 :=
 ⟨h.os,h.tape,h.output,h.size,fun k hk hn=>h.block k hk (fun h'=>hn (ht k h'))⟩
theorem owns_exc {T:Nat → Prop} {w w':World} {B e sz:Nat} {v:Value} {n:Nat} {xs:List Value} (hE:Exc T w w') (h:w.ownsRow B e sz v n xs) (hT:∀ k,v.ownBlock=some k → ¬ T k):w'.ownsRow B e sz v n xs:=by
 refine ⟨h.1,?_⟩
 rcases h.2 with hn|⟨g,cap,cur,rfl,hbb,hgg,rest⟩
 ·exact .inl hn
 ·exact .inr ⟨g,cap,cur,rfl,hbb,(hE.block g (Array.getElem?_eq_some_iff.1 hgg).1 (hT g rfl)).trans hgg,rest⟩
end Go.Proofs.YtbljmfcifljkaaaGreatDoor
