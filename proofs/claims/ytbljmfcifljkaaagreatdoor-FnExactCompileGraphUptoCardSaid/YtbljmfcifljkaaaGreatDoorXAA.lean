/-
  The plain data of the parser, library and journal chapters, and what it means that a world holds them. Own work; no given text.
-/
import Derived.WalkKit
import Derived.Lib.Hide
import Derived.Test.YtbljmfcifljkaaaGreatDoorProg
import Derived.WalkLawsBesides
import Derived.WalkSpells
import Derived.StillTailTactics
import Derived.WideShapes
import Derived.Deep.QuietTactic
import Derived.BigQuiet
import Derived.Deep.RegionWith
set_option linter.all false
set_option maxRecDepth 100000
set_option maxHeartbeats 8000000
namespace Go.Proofs.YtbljmfcifljkaaaGreatDoor
open Go.RowKit
structure Nd where
 kind:Int
 value:Int
 name:ByteArray
 deriving DecidableEq
structure Df where
 name:ByteArray
 inn:Int
 out:Int
 body:List Nd
 deriving DecidableEq
structure En where
 kind:Int
 name:ByteArray
 to:ByteArray
 body:List Nd
 deriving DecidableEq
def SlAt (sz:Nat) (v:Value) (n:Nat) (R:Nat → Nat → Nat → Prop):Prop :=
 ∃ a cap,v=.slice a n cap∧n≤cap∧∀ i,i<n → ∃ b o,a=some ⟨b,o,none⟩∧R i b (o+i * sz)
def NdAt (w:World) (d:Nd) (b o:Nat):Prop :=
 w.cell? ⟨b,o,none⟩=some (.int .i64 d.kind)∧w.cell? ⟨b,o+1,none⟩=some (.int .i64 d.value)∧w.cell? ⟨b,o+2,none⟩=some (.string d.name)
def NdsAt (w:World) (v:Value) (ns:List Nd):Prop:=SlAt 3 v ns.length fun i b o=>∃ h:i<ns.length,NdAt w ns[i] b o
def DfAt (w:World) (d:Df) (b o:Nat):Prop :=
 w.cell? ⟨b,o,none⟩=some (.string d.name)∧w.cell? ⟨b,o+1,none⟩=some (.int .i64 d.inn)∧w.cell? ⟨b,o+2,none⟩=some (.int .i64 d.out) ∧
  ∃ v,w.cell? ⟨b,o+3,none⟩=some v∧NdsAt w v d.body
def DfsAt (w:World) (v:Value) (L:List Df):Prop:=SlAt 4 v L.length fun i b o=>∃ h:i<L.length,DfAt w L[i] b o
def EnAt (w:World) (e:En) (b o:Nat):Prop :=
 w.cell? ⟨b,o,none⟩=some (.int .i64 e.kind)∧w.cell? ⟨b,o+1,none⟩=some (.string e.name)∧w.cell? ⟨b,o+2,none⟩=some (.string e.to) ∧
  ∃ v,w.cell? ⟨b,o+3,none⟩=some v∧NdsAt w v e.body
def EnsAt (w:World) (v:Value) (L:List En):Prop:=SlAt 4 v L.length fun i b o=>∃ h:i<L.length,EnAt w L[i] b o
theorem cell_lt {w:World} {b o:Nat} {v:Value} (h:w.cell? ⟨b,o,none⟩=some v):b<w.heap.size:=by
 have:=World.block_lt_of_cell? w ⟨b,o,none⟩ h
 exact this
theorem cell_keep {w w':World} (hb:Below w.heap.size w w') {b o:Nat} {v:Value} (h:w.cell? ⟨b,o,none⟩=some v):w'.cell? ⟨b,o,none⟩=some v :=
 (hb.cell (p:=⟨b,o,none⟩) (cell_lt h)).trans h
theorem SlAt.mono {sz:Nat} {v:Value} {n:Nat} {R R':Nat → Nat → Nat → Prop} (h:SlAt sz v n R) (hr:∀ i b o,R i b o → R' i b o):SlAt sz v n R':=by
 obtain ⟨a,cap,rfl,hc,h⟩:=h
 exact ⟨a,cap,rfl,hc,fun i hi=>let ⟨b,o,e,r⟩:=h i hi;⟨b,o,e,hr _ _ _ r⟩⟩
theorem NdAt.keep {w w':World} (hb:Below w.heap.size w w') {d:Nd} {b o:Nat} (h:NdAt w d b o):NdAt w' d b o :=
 ⟨cell_keep hb h.1,cell_keep hb h.2.1,cell_keep hb h.2.2⟩
theorem NdsAt.keep {w w':World} (hb:Below w.heap.size w w') {v:Value} {ns:List Nd} (h:NdsAt w v ns):NdsAt w' v ns :=
 SlAt.mono h fun _ _ _ ⟨hi,r⟩=>⟨hi,r.keep hb⟩
theorem DfAt.keep {w w':World} (hb:Below w.heap.size w w') {d:Df} {b o:Nat} (h:DfAt w d b o):DfAt w' d b o:=by
 obtain ⟨h1,h2,h3,v,h4,h5⟩:=h
 exact ⟨cell_keep hb h1,cell_keep hb h2,cell_keep hb h3,v,cell_keep hb h4,h5.keep hb⟩
theorem DfsAt.keep {w w':World} (hb:Below w.heap.size w w') {v:Value} {L:List Df} (h:DfsAt w v L):DfsAt w' v L :=
 SlAt.mono h fun _ _ _ ⟨hi,r⟩=>⟨hi,r.keep hb⟩
theorem EnAt.keep {w w':World} (hb:Below w.heap.size w w') {d:En} {b o:Nat} (h:EnAt w d b o):EnAt w' d b o:=by
 obtain ⟨h1,h2,h3,v,h4,h5⟩:=h
 exact ⟨cell_keep hb h1,cell_keep hb h2,cell_keep hb h3,v,cell_keep hb h4,h5.keep hb⟩
theorem EnsAt.keep {w w':World} (hb:Below w.heap.size w w') {v:Value} {L:List En} (h:EnsAt w v L):EnsAt w' v L :=
 SlAt.mono h fun _ _ _ ⟨hi,r⟩=>⟨hi,r.keep hb⟩
theorem NdsAt.slice {w:World} {v:Value} {ns:List Nd} (h:NdsAt w v ns):∃ a cap,v=.slice a ns.length cap:=by
 obtain ⟨a,cap,rfl,_⟩:=h;exact ⟨a,cap,rfl⟩
theorem ret_bool {a b:Bool} (h:a=b):Ending.returned (.bool a)=.returned (.bool b):=by rw [h]
end Go.Proofs.YtbljmfcifljkaaaGreatDoor
/-
  Rows that a call made itself: flat lists of cells, element by element. Own work; no program text.
-/
namespace Go.Proofs.YtbljmfcifljkaaaGreatDoor
open Go.RowKit
section flat
variable {α:Type} {f:α → List Value} {sz:Nat}
theorem flat_length (hf:∀ x,(f x).length=sz) (xs:List α):(xs.flatMap f).length=xs.length * sz:=by
 induction xs with
 | nil=>simp
 | cons x xs ih=>simp [ih,hf,Nat.add_mul];omega
theorem flat_get (hf:∀ x,(f x).length=sz) (xs:List α) (i j:Nat) (hi:i<xs.length) (hj:j<sz):(xs.flatMap f)[i * sz+j]?=(f xs[i])[j]?:=by
 induction xs generalizing i with
 | nil=>simp at hi
 | cons x xs ih =>
  cases i with
  | zero=>simp only [List.flatMap_cons,Nat.zero_mul,Nat.zero_add,List.getElem_cons_zero];rw [List.getElem?_append_left (by rw [hf];exact hj)]
  | succ i =>
   have hi':i<xs.length:=by simpa using hi
   simp only [List.flatMap_cons,List.getElem_cons_succ]
   rw [List.getElem?_append_right (by rw [hf,Nat.add_mul];omega),hf]
   rw [← ih i hi']
   congr 1
   rw [Nat.add_mul];omega
theorem flat_set (hf:∀ x,(f x).length=sz) (xs:List α) (i j:Nat) (hi:i<xs.length) (hj:j<sz) (v:Value) (y:α) (hy:f y=(f xs[i]).set j v) :
  (xs.flatMap f).set (i * sz+j) v=(xs.set i y).flatMap f:=by
 induction xs generalizing i with
 | nil=>simp at hi
 | cons x xs ih =>
  cases i with
  | zero =>
   simp only [List.flatMap_cons,Nat.zero_mul,Nat.zero_add,List.set_cons_zero]
   rw [List.set_append_left _ _ (by rw [hf];exact hj)]
   simp at hy;rw [hy]
  | succ i =>
   have hi':i<xs.length:=by simpa using hi
   simp only [List.flatMap_cons,List.set_cons_succ]
   rw [List.set_append_right _ _ (by rw [hf,Nat.add_mul];omega),hf]
   rw [← ih i hi' (by simpa using hy)]
   congr 2
   rw [Nat.add_mul];omega
theorem made_flat (z:α) (n:Nat) (hs:0<sz) (hz:(f z).length=sz):(madeCells (f z).toArray (n * sz)).toList=(List.replicate n z).flatMap f:=by
 apply List.ext_getElem?
 intro j
 have hl:((List.replicate n z).flatMap f).length=n * sz:=by
  induction n with
  | zero=>simp
  | succ n ih=>rw [List.replicate_succ,List.flatMap_cons,List.length_append,ih,hz,Nat.add_mul];omega
 by_cases hj:j<n * sz
 ·have hd:j=(j / sz) * sz+j % sz:=by rw [Nat.mul_comm];exact (Nat.div_add_mod j sz).symm
  have hq:j / sz<n:=Nat.div_lt_of_lt_mul (by rw [Nat.mul_comm];exact hj)
  have hr:j % sz<sz:=Nat.mod_lt _ hs
  have key:∀ (n q r:Nat),q<n → r<sz → ((List.replicate n z).flatMap f)[q * sz+r]?=(f z)[r]?:=by
   intro n
   induction n with
   | zero=>intro q r h;omega
   | succ n ih =>
    intro q r h hr
    rw [List.replicate_succ,List.flatMap_cons]
    cases q with
    | zero=>rw [Nat.zero_mul,Nat.zero_add,List.getElem?_append_left (by rw [hz];exact hr)]
    | succ q =>
     rw [List.getElem?_append_right (by rw [hz,Nat.add_mul];omega),hz,← ih q r (by omega) hr]
     congr 1
     rw [Nat.add_mul];omega
  have h2:=key n (j / sz) (j % sz) hq hr
  rw [← hd] at h2
  have e2:(f z)[j % sz]?=some ((f z)[j % sz]'(by rw [hz];exact hr)):=List.getElem?_eq_getElem _
  rw [h2,e2]
  simp [madeCells,hj,hz,e2]
 ·have hm:(madeCells (f z).toArray (n * sz)).toList.length=n * sz:=by simp [madeCells]
  rw [List.getElem?_eq_none (by omega),List.getElem?_eq_none (by omega)]
end flat
def ndCells (d:Nd):List Value:=[.int .i64 d.kind,.int .i64 d.value,.string d.name]
def dfCells (x:Df × Value):List Value:=[.string x.1.name,.int .i64 x.1.inn,.int .i64 x.1.out,x.2]
theorem ndCells_len (d:Nd):(ndCells d).length=3:=rfl
theorem dfCells_len (x:Df × Value):(dfCells x).length=4:=rfl
def NdsOwn (w:World) (B:Nat) (v:Value) (ns:List Nd):Prop:=w.ownsRow B 144 3 v ns.length (ns.flatMap ndCells)
theorem owns_slat {w:World} {B e sz:Nat} {v:Value} {n:Nat} {xs:List Value} (h:w.ownsRow B e sz v n xs) (R:Nat → Nat → Nat → Prop)
  (hr:∀ i b o,i<n → (∀ j,j<sz → w.cell? ⟨b,o+j,none⟩=xs[i * sz+j]?) → R i b o):SlAt sz v n R:=by
 have h':=h
 obtain ⟨hl,h2⟩:=h
 rcases h2 with ⟨rfl,rfl⟩|⟨g,cap,cur,rfl,hb,hh,hc,hm,hs,ht⟩
 ·exact ⟨none,0,rfl,Nat.le_refl _,fun i hi=>absurd hi (Nat.not_lt_zero _)⟩
 ·refine ⟨some ⟨g,0,none⟩,cap,rfl,hc,fun i hi=>⟨g,0,rfl,hr i g _ hi fun j hj=>?_⟩⟩
  rw [Nat.zero_add]
  refine h'.cellAt _ ?_
  have:(i+1) * sz≤n * sz:=Nat.mul_le_mul_right _ hi
  rw [Nat.add_mul] at this
  omega
theorem NdsOwn.at {w:World} {B:Nat} {v:Value} {ns:List Nd} (h:NdsOwn w B v ns):NdsAt w v ns:=by
 refine owns_slat h _ fun i b o hi hc=>⟨hi,?_⟩
 have g:∀ j,j<3 → w.cell? ⟨b,o+j,none⟩=(ndCells ns[i])[j]?:=fun j hj=>(hc j hj).trans (flat_get ndCells_len ns i j hi hj)
 exact ⟨g 0 (by omega),g 1 (by omega),g 2 (by omega)⟩
def Apart (a b:Value):Prop:=∀ k,a.ownBlock=some k → b.ownBlock ≠ some k
def DfsOwn (w:World) (B:Nat) (v:Value) (L:List Df):Prop :=
 ∃ xs:List (Df × Value),xs.map Prod.fst=L∧w.ownsRow B 151 4 v xs.length (xs.flatMap dfCells)∧(∀ x ∈ xs,NdsOwn w B x.2 x.1.body)∧xs.Pairwise fun x y=>Apart x.2 y.2
theorem DfsOwn.at {w:World} {B:Nat} {v:Value} {L:List Df} (h:DfsOwn w B v L):DfsAt w v L:=by
 obtain ⟨xs,rfl,ho,hb,_⟩:=h
 have ho':w.ownsRow B 151 4 v (xs.map Prod.fst).length (xs.flatMap dfCells):=by rw [List.length_map];exact ho
 refine owns_slat ho' _ fun i b o hi' hc=>⟨hi',?_⟩
 have hi:i<xs.length:=by simpa using hi' 
 have g:∀ j,j<4 → w.cell? ⟨b,o+j,none⟩=(dfCells xs[i])[j]?:=fun j hj=>(hc j hj).trans (flat_get dfCells_len xs i j hi hj)
 rw [List.getElem_map]
 exact ⟨g 0 (by omega),g 1 (by omega),g 2 (by omega),xs[i].2,g 3 (by omega),(hb _ (List.getElem_mem _)).at⟩
theorem owns_keep {w w':World} {B e sz:Nat} {v:Value} {n:Nat} {xs:List Value} (hb:Below w.heap.size w w') (h:w.ownsRow B e sz v n xs):w'.ownsRow B e sz v n xs:=by
 refine ⟨h.1,?_⟩
 rcases h.2 with hn|⟨g,cap,cur,rfl,hbb,hgg,rest⟩
 ·exact .inl hn
 ·exact .inr ⟨g,cap,cur,rfl,hbb,(hb.block g (Array.getElem?_eq_some_iff.1 hgg).1).trans hgg,rest⟩
theorem NdsOwn.keep {w w':World} {B:Nat} {v:Value} {ns:List Nd} (hb:Below w.heap.size w w') (h:NdsOwn w B v ns):NdsOwn w' B v ns:=owns_keep hb h
theorem DfsOwn.keep {w w':World} {B:Nat} {v:Value} {L:List Df} (hb:Below w.heap.size w w') (h:DfsOwn w B v L):DfsOwn w' B v L:=by
 obtain ⟨xs,h1,h2,h3,h4⟩:=h
 exact ⟨xs,h1,owns_keep hb h2,fun x hx=>(h3 x hx).keep hb,h4⟩
theorem owns_mono {w:World} {B B' e sz:Nat} {v:Value} {n:Nat} {xs:List Value} (hB:B'≤B) (h:w.ownsRow B e sz v n xs):w.ownsRow B' e sz v n xs:=by
 refine ⟨h.1,?_⟩
 rcases h.2 with hn|⟨g,cap,cur,rfl,hbb,rest⟩
 ·exact .inl hn
 ·exact .inr ⟨g,cap,cur,rfl,by omega,rest⟩
theorem NdsOwn.mono {w:World} {B B':Nat} {v:Value} {ns:List Nd} (hB:B'≤B) (h:NdsOwn w B v ns):NdsOwn w B' v ns:=owns_mono hB h
theorem DfsOwn.mono {w:World} {B B':Nat} {v:Value} {L:List Df} (hB:B'≤B) (h:DfsOwn w B v L):DfsOwn w B' v L:=by
 obtain ⟨xs,h1,h2,h3,h4⟩:=h
 exact ⟨xs,h1,owns_mono hB h2,fun x hx=>(h3 x hx).mono hB,h4⟩
theorem owns_ne {w:World} {B B' e e' sz sz':Nat} {v v':Value} {n n':Nat} {xs xs':List Value} (h:w.ownsRow B e sz v n xs) (h':w.ownsRow B' e' sz' v' n' xs') (he:e ≠ e'):Apart v v':=by
 intro k hk hk'
 rcases h.2 with ⟨rfl,_⟩|⟨g,cap,cur,rfl,_,hgg,_⟩
 ·simp [Value.ownBlock] at hk
 rcases h'.2 with ⟨rfl,_⟩|⟨g',cap',cur',rfl,_,hgg',_⟩
 ·simp [Value.ownBlock] at hk'
 simp [Value.ownBlock] at hk hk'
 subst hk;subst hk'
 rw [hgg] at hgg'
 simp at hgg'
 exact he hgg'.2
theorem owns_set {α:Type} {f:α → List Value} {w:World} {B e sz g n cap:Nat} {xs:List α} (hf:∀ x,(f x).length=sz)
  (h:w.ownsRow B e sz (.slice (some ⟨g,0,none⟩) n cap) n (xs.flatMap f)) (i j o:Nat) (hi:i<xs.length) (hj:j<sz) (ho:o=i * sz+j) (u:Value) (y:α) (hy:f y=(f xs[i]).set j u) :
  (w.setCell ⟨g,o,none⟩ u).ownsRow B e sz (.slice (some ⟨g,0,none⟩) n cap) n ((xs.set i y).flatMap f):=by
 subst ho
 have:=(h.stored (i * sz+j) u).1
 rw [flat_set hf xs i j hi hj u y hy] at this
 exact this
theorem owns_cell {α:Type} {f:α → List Value} {w:World} {B e sz g n cap:Nat} {xs:List α} (hf:∀ x,(f x).length=sz)
  (h:w.ownsRow B e sz (.slice (some ⟨g,0,none⟩) n cap) n (xs.flatMap f)) (i j:Nat) (hi:i<xs.length) (hj:j<sz):w.cell? ⟨g,i * sz+j,none⟩=(f xs[i])[j]?:=by
 have hl:=h.1
 rw [flat_length hf] at hl
 rw [h.cellAt (i * sz+j) ?_,flat_get hf xs i j hi hj]
 rw [← hl]
 have:(i+1) * sz≤xs.length * sz:=Nat.mul_le_mul_right _ hi
 rw [Nat.add_mul] at this
 omega
theorem take_set {α:Type} (ns:List α) (z:α) (k:Nat) (hk:k<ns.length) :
  (ns.take k ++ List.replicate (ns.length - k) z).set k ns[k]=ns.take (k+1) ++ List.replicate (ns.length - (k+1)) z:=by
 have hl:(ns.take k).length=k:=by rw [List.length_take];omega
 rw [List.set_append_right _ _ (by omega),hl,Nat.sub_self]
 obtain ⟨m,hm⟩:∃ m,ns.length - k=m+1:=⟨ns.length - k - 1,by omega⟩
 rw [hm,show ns.length - (k+1)=m from by omega,List.replicate_succ,List.set_cons_zero,List.take_succ_eq_append_getElem hk,List.append_assoc]
 rfl
theorem owns_other {w:World} {B e sz:Nat} {v:Value} {n:Nat} {xs:List Value} (h:w.ownsRow B e sz v n xs) (a:Addr) (u:Value) (hne:v.ownBlock ≠ some a.block):(w.setCell a u).ownsRow B e sz v n xs:=by
 refine ⟨h.1,?_⟩
 rcases h.2 with hn|⟨g,cap,cur,rfl,hbb,hgg,rest⟩
 ·exact .inl hn
 ·refine .inr ⟨g,cap,cur,rfl,hbb,?_,rest⟩
  rw [Below.heap_setCell _ _ _ _ (by intro hh;exact hne (by simp [Value.ownBlock,hh]))]
  exact hgg
theorem setCell_size (w:World) (a:Addr) (u:Value):(w.setCell a u).heap.size=w.heap.size:=by simp [World.setCell]
theorem set4 {α:Type} {f:α → List Value} {w:World} {B e g n cap:Nat} {xs:List α} (hf:∀ x,(f x).length=4)
  (h:w.ownsRow B e 4 (.slice (some ⟨g,0,none⟩) n cap) n (xs.flatMap f)) (i:Nat) (hi:i<xs.length) (a b c d:Value) (y:α) (hy:f y=[a,b,c,d]) :
  ((((w.setCell ⟨g,i * 4,none⟩ a).setCell ⟨g,i * 4+1,none⟩ b).setCell ⟨g,i * 4+2,none⟩ c).setCell ⟨g,i * 4+3,none⟩ d).ownsRow B e 4 (.slice (some ⟨g,0,none⟩) n cap) n ((xs.set i y).flatMap f):=by
 have hcat:∀ (l:List α) (j:Nat) (hj:j<l.length),l.flatMap f=(l.take j).flatMap f ++ f l[j] ++ (l.drop (j+1)).flatMap f:=by
  intro l j hj
  conv=>lhs;rw [← List.take_append_drop j l]
  rw [List.flatMap_append,List.append_assoc,List.drop_eq_getElem_cons hj,List.flatMap_cons]
 have hl:((xs.take i).flatMap f).length=i * 4:=by rw [flat_length hf,List.length_take];congr 1;omega
 have hset:((((xs.flatMap f).set (i * 4) a).set (i * 4+1) b).set (i * 4+2) c).set (i * 4+3) d=(xs.set i y).flatMap f:=by
  rw [hcat xs i hi,hcat (xs.set i y) i (by simpa using hi)]
  have hx:=hf xs[i]
  simp only [List.take_set_of_le (Nat.le_refl i),List.getElem_set_self,hy,List.drop_set_of_lt (Nat.lt_succ_self i)]
  match hxx:f xs[i],hx with
  | [p,q,r,s],_ =>
   rw [List.append_assoc]
   rw [List.set_append_right _ _ (by omega),hl,Nat.sub_self]
   rw [List.set_append_right _ _ (by omega),hl,Nat.add_sub_cancel_left]
   rw [List.set_append_right _ _ (by omega),hl,Nat.add_sub_cancel_left]
   rw [List.set_append_right _ _ (by omega),hl,Nat.add_sub_cancel_left]
   simp
 have h1:=(h.stored (i * 4) a).1
 have h2:=(h1.stored (i * 4+1) b).1
 have h3:=(h2.stored (i * 4+2) c).1
 have h4:=(h3.stored (i * 4+3) d).1
 rw [hset] at h4
 exact h4
theorem NdsOwn.slice {w:World} {B:Nat} {v:Value} {ns:List Nd} (h:NdsOwn w B v ns):∃ a cap,v=.slice a ns.length cap:=h.at.slice
end Go.Proofs.YtbljmfcifljkaaaGreatDoor
/-
  Plain functions: types of leaves and terms, names, libraries. No program in sight. Own work.
-/
namespace Go.Proofs.YtbljmfcifljkaaaGreatDoor
abbrev W2:=Int × Int
def kindW (k:Int):W2 :=
 if k=2 then (2,2) else if k=3∨k=11 then (1,2) else if k=4∨k=12 then (1,0) else if k=5∨k=9 then (2,1) else if k=6∨k=10 then (0,1) else (1,1)
def leafB (n:Nd):Bool :=
 decide (n.name=ByteArray.empty) && decide (1≤n.kind) && decide (n.kind≤14) &&
  (if n.kind=1 then decide (0≤n.value) && decide (n.value≤12) else if n.kind=7∨n.kind=13 then decide (0≤n.value) && decide (n.value≤96) else decide (n.value=0))
def arityW (n:Nd):W2:=if n.kind=1 then (n.value,n.value) else kindW n.kind
def findFrom (name:ByteArray):List Df → Nat → Int
 | [],_=>-1
 | d :: r,k=>if d.name=name then k else findFrom name r (k+1)
def findD (L:List Df) (name:ByteArray):Option Df:=L.find? fun d=>decide (d.name=name)
def leafIn (L:List Df) (n:Nd):Option W2 :=
 if n.kind=17 then (if n.value=0 then (findD L n.name).map fun d=>(d.inn,d.out) else none)
 else if leafB n then some (arityW n) else none
def joinW (k:Int) (a b:W2):Option W2 :=
 if k=15 then (if a.2=b.1 then some (a.1,b.2) else none)
 else if a.1+b.1≤12∧a.2+b.2≤12 then some (a.1+b.1,a.2+b.2) else none
def typedGo (leaf:Nd → Option W2):List Nd → List W2 → Option (List W2)
 | [],st=>some st
 | n :: r,st =>
  if n.kind=15∨n.kind=16 then
   (if n.value=0∧n.name=ByteArray.empty then
    (match st with
    | b :: a :: st'=>(match joinW n.kind a b with
     | some w=>typedGo leaf r (w :: st')
     | none=>none)
    | _=>none)
   else none)
  else (match leaf n with
   | some w=>typedGo leaf r (w :: st)
   | none=>none)
def typedL (leaf:Nd → Option W2) (ns:List Nd):Option W2 :=
 if 1≤ns.length∧ns.length≤400 then
  (match typedGo leaf ns [] with
  | some [w]=>some w
  | _=>none)
 else none
section
variable {leaf:Nd → Option W2} {n:Nd} {r:List Nd} {st:List W2}
end
end Go.Proofs.YtbljmfcifljkaaaGreatDoor
/-
  The laws' comparisons: true exactly if the data are equal. Own work.
-/
namespace Go.Proofs.YtbljmfcifljkaaaGreatDoor
open Go.RowKit
def EqTail {α:Type} (a b:List α) (k:Nat):Prop:=a=b ↔ a.drop k=b.drop k
theorem EqTail.zero {α:Type} (a b:List α):EqTail a b 0:=by simp [EqTail]
theorem EqTail.step {α:Type} {a b:List α} {k:Nat} (h:EqTail a b k) (ha:k<a.length) (hb:k<b.length) (he:a[k]=b[k]):EqTail a b (k+1):=by
 unfold EqTail at *
 rw [h,List.drop_eq_getElem_cons ha,List.drop_eq_getElem_cons hb,he]
 simp only [List.cons.injEq,true_and]
theorem EqTail.no {α:Type} {a b:List α} {k:Nat} (h:EqTail a b k) (ha:k<a.length) (hb:k<b.length) (he:a[k] ≠ b[k]):a ≠ b:=by
 unfold EqTail at h
 rw [ne_eq,h,List.drop_eq_getElem_cons ha,List.drop_eq_getElem_cons hb]
 simp only [List.cons.injEq,he,false_and,not_false_eq_true]
theorem EqTail.done {α:Type} {a b:List α} {k:Nat} (h:EqTail a b k) (ha:a.length≤k) (hb:b.length≤k):a=b:=by
 unfold EqTail at h
 rw [h,List.drop_eq_nil_of_le ha,List.drop_eq_nil_of_le hb]
end Go.Proofs.YtbljmfcifljkaaaGreatDoor
/-
  Walks of the small functions of terms and names. Own work.
-/
namespace Go.Proofs.YtbljmfcifljkaaaGreatDoor
open Go.RowKit
def inB (n lo hi:Int):Bool:=decide (lo≤n) && decide (n≤hi)
theorem within_any (n lo hi:Int) (w:World) :
  Calls Tryz.prog 128 #[.int .i64 n,.int .i64 lo,.int .i64 hi] w fun e w'=>e=.returned (.bool (inB n lo hi))∧w=w':=by
 go_enter Tryz.func128,Tryz.ntmps128
 go_wp2
 all_goals go_ret
 all_goals exact ⟨ret_bool (by simp [inB];try omega),rfl⟩
theorem l1In_any (n lo hi:Int) (w:World) :
  Calls Tryz.prog 80 #[.int .i64 n,.int .i64 lo,.int .i64 hi] w fun e w'=>e=.returned (.bool (inB n lo hi))∧w=w':=by
 go_enter Tryz.func80,Tryz.ntmps80
 go_wp2
 all_goals go_ret
 all_goals exact ⟨ret_bool (by simp [inB];try omega),rfl⟩
def lowB (b:UInt8):Bool:=decide ((97:Int)≤(b.toNat:Int)) && decide ((b.toNat:Int)≤122)
def digB (b:UInt8):Bool:=decide ((48:Int)≤(b.toNat:Int)) && decide ((b.toNat:Int)≤57)
def valB (k:Int):Bool:=(k == 7) || (k == 13)
theorem hasValue_any (k:Int) (w:World) :
  Calls Tryz.prog 191 #[.int .i64 k] w fun e w'=>e=.returned (.bool (valB k))∧w=w':=by
 go_enter Tryz.func191,Tryz.ntmps191
 go_wp2
 all_goals go_ret
 all_goals exact ⟨ret_bool (by simp_all [valB]),rfl⟩
theorem isGenerator_any (k:Int) (w:World) :
  Calls Tryz.prog 242 #[.int .i64 k] w fun e w'=>e=.returned (.bool (inB k 3 14))∧w=w':=by
 go_enter Tryz.func242,Tryz.ntmps242
 go_wp2_with (go_at_call 128;refine (within_any _ _ _ _).mono ?_;rintro e w2 ⟨rfl,rfl⟩)
 go_ret
 exact ⟨rfl,rfl⟩
def genValB (k v:Int):Bool:=if valB k then inB v 0 96 else (v == 0)
theorem isGeneratorValue_any (k v:Int) (w:World) :
  Calls Tryz.prog 244 #[.int .i64 k,.int .i64 v] w fun e w'=>e=.returned (.bool (genValB k v))∧w=w':=by
 cases hk:valB k
 all_goals
  go_enter Tryz.func244,Tryz.ntmps244
  go_wp2_with (first|(go_at_call 191;refine (hasValue_any _ _).mono ?_;rintro e w2 ⟨rfl,rfl⟩)|(go_at_call 128;refine (within_any _ _ _ _).mono ?_;rintro e w2 ⟨rfl,rfl⟩))
  go_ret
  exact ⟨by simp [genValB,hk],rfl⟩
theorem tmKind_any (k:Int) (w:World) :
  Calls Tryz.prog 169 #[.int .i64 k] w fun e w'=>e=.returned (.tuple #[.int .i64 (kindW k).1,.int .i64 (kindW k).2])∧w=w':=by
 go_enter Tryz.func169,Tryz.ntmps169
 go_wp2
 all_goals go_ret2
 all_goals exact ⟨by simp_all [kindW],rfl⟩
end Go.Proofs.YtbljmfcifljkaaaGreatDoor
