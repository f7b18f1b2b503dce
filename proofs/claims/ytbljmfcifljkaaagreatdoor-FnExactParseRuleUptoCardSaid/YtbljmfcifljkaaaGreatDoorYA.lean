/-
  The plain data of the parser, library and journal chapters, and what it means that a world holds them. Own work; no given text.
-/
import Derived.WalkKit
import Derived.Lib.Hide
import Derived.Test.YtbljmfcifljkaaaGreatDoorProg
import Derived.WalkLawsBesides
import Derived.WalkSpells
set_option linter.all false
set_option maxRecDepth 100000
set_option maxHeartbeats 8000000
namespace Go.Proofs.YtbljmfcifljkaaaGreatDoor
open Go.RowKit
structure Nd where
 kind:Int
 value:Int
 name:ByteArray
 deriving DecidableEq
structure Df where
 name:ByteArray
 inn:Int
 out:Int
 body:List Nd
 deriving DecidableEq
structure En where
 kind:Int
 name:ByteArray
 to:ByteArray
 body:List Nd
 deriving DecidableEq
def SlAt (sz:Nat) (v:Value) (n:Nat) (R:Nat → Nat → Nat → Prop):Prop :=
 ∃ a cap,v=.slice a n cap∧n≤cap∧∀ i,i<n → ∃ b o,a=some ⟨b,o,none⟩∧R i b (o+i * sz)
def NdAt (w:World) (d:Nd) (b o:Nat):Prop :=
 w.cell? ⟨b,o,none⟩=some (.int .i64 d.kind)∧w.cell? ⟨b,o+1,none⟩=some (.int .i64 d.value)∧w.cell? ⟨b,o+2,none⟩=some (.string d.name)
def NdsAt (w:World) (v:Value) (ns:List Nd):Prop:=SlAt 3 v ns.length fun i b o=>∃ h:i<ns.length,NdAt w ns[i] b o
def DfAt (w:World) (d:Df) (b o:Nat):Prop :=
 w.cell? ⟨b,o,none⟩=some (.string d.name)∧w.cell? ⟨b,o+1,none⟩=some (.int .i64 d.inn)∧w.cell? ⟨b,o+2,none⟩=some (.int .i64 d.out) ∧
  ∃ v,w.cell? ⟨b,o+3,none⟩=some v∧NdsAt w v d.body
def DfsAt (w:World) (v:Value) (L:List Df):Prop:=SlAt 4 v L.length fun i b o=>∃ h:i<L.length,DfAt w L[i] b o
def EnAt (w:World) (e:En) (b o:Nat):Prop :=
 w.cell? ⟨b,o,none⟩=some (.int .i64 e.kind)∧w.cell? ⟨b,o+1,none⟩=some (.string e.name)∧w.cell? ⟨b,o+2,none⟩=some (.string e.to) ∧
  ∃ v,w.cell? ⟨b,o+3,none⟩=some v∧NdsAt w v e.body
def EnsAt (w:World) (v:Value) (L:List En):Prop:=SlAt 4 v L.length fun i b o=>∃ h:i<L.length,EnAt w L[i] b o
theorem cell_lt {w:World} {b o:Nat} {v:Value} (h:w.cell? ⟨b,o,none⟩=some v):b<w.heap.size:=by
 have:=World.block_lt_of_cell? w ⟨b,o,none⟩ h
 exact this
theorem cell_keep {w w':World} (hb:Below w.heap.size w w') {b o:Nat} {v:Value} (h:w.cell? ⟨b,o,none⟩=some v):w'.cell? ⟨b,o,none⟩=some v :=
 (hb.cell (p:=⟨b,o,none⟩) (cell_lt h)).trans h
theorem SlAt.mono {sz:Nat} {v:Value} {n:Nat} {R R':Nat → Nat → Nat → Prop} (h:SlAt sz v n R) (hr:∀ i b o,R i b o → R' i b o):SlAt sz v n R':=by
 obtain ⟨a,cap,rfl,hc,h⟩:=h
 exact ⟨a,cap,rfl,hc,fun i hi=>let ⟨b,o,e,r⟩:=h i hi;⟨b,o,e,hr _ _ _ r⟩⟩
theorem NdAt.keep {w w':World} (hb:Below w.heap.size w w') {d:Nd} {b o:Nat} (h:NdAt w d b o):NdAt w' d b o :=
 ⟨cell_keep hb h.1,cell_keep hb h.2.1,cell_keep hb h.2.2⟩
theorem NdsAt.keep {w w':World} (hb:Below w.heap.size w w') {v:Value} {ns:List Nd} (h:NdsAt w v ns):NdsAt w' v ns :=
 SlAt.mono h fun _ _ _ ⟨hi,r⟩=>⟨hi,r.keep hb⟩
theorem DfAt.keep {w w':World} (hb:Below w.heap.size w w') {d:Df} {b o:Nat} (h:DfAt w d b o):DfAt w' d b o:=by
 obtain ⟨h1,h2,h3,v,h4,h5⟩:=h
 exact ⟨cell_keep hb h1,cell_keep hb h2,cell_keep hb h3,v,cell_keep hb h4,h5.keep hb⟩
theorem DfsAt.keep {w w':World} (hb:Below w.heap.size w w') {v:Value} {L:List Df} (h:DfsAt w v L):DfsAt w' v L :=
 SlAt.mono h fun _ _ _ ⟨hi,r⟩=>⟨hi,r.keep hb⟩
theorem EnAt.keep {w w':World} (hb:Below w.heap.size w w') {d:En} {b o:Nat} (h:EnAt w d b o):EnAt w' d b o:=by
 obtain ⟨h1,h2,h3,v,h4,h5⟩:=h
 exact ⟨cell_keep hb h1,cell_keep hb h2,cell_keep hb h3,v,cell_keep hb h4,h5.keep hb⟩
theorem EnsAt.keep {w w':World} (hb:Below w.heap.size w w') {v:Value} {L:List En} (h:EnsAt w v L):EnsAt w' v L :=
 SlAt.mono h fun _ _ _ ⟨hi,r⟩=>⟨hi,r.keep hb⟩
theorem NdsAt.slice {w:World} {v:Value} {ns:List Nd} (h:NdsAt w v ns):∃ a cap,v=.slice a ns.length cap:=by
 obtain ⟨a,cap,rfl,_⟩:=h;exact ⟨a,cap,rfl⟩
theorem ret_int {k:IntKind} {a b:Int} (h:a=b):Ending.returned (.int k a)=.returned (.int k b):=by rw [h]
theorem ret_bool {a b:Bool} (h:a=b):Ending.returned (.bool a)=.returned (.bool b):=by rw [h]
theorem bcell {W w1:World} (hb:Below W.heap.size W w1):(∀ b o,b<W.heap.size → w1.cell? ⟨b,o,none⟩=W.cell? ⟨b,o,none⟩)∧(∀ b o,b<W.heap.size → w1.frozen? ⟨b,o,none⟩=W.frozen? ⟨b,o,none⟩)∧W.heap.size≤w1.heap.size :=
 ⟨fun b o h=>hb.cell (p:=⟨b,o,none⟩) h,fun b o h=>hb.frozen (p:=⟨b,o,none⟩) h,hb.size⟩
theorem alloc_keep {w:World} {b o:Nat} {v:Value} (h:w.cell? ⟨b,o,none⟩=some v) (ob:Obj):(w.alloc ob).cell? ⟨b,o,none⟩=some v :=
 cell_keep ((Below.refl _ _).alloc (Nat.le_refl _) _) h
end Go.Proofs.YtbljmfcifljkaaaGreatDoor
/-
  The size checks of the laws: each returns a number of at most what was left, and turns nothing. Own work.
-/
namespace Go.Proofs.YtbljmfcifljkaaaGreatDoor
open Go.RowKit
def NdsOk (ns:List Nd):Prop:=(∀ d ∈ ns,d.name.size≤1048576)∧ns.length≤1048576
def DfOk (d:Df):Prop:=d.name.size≤1048576∧NdsOk d.body
end Go.Proofs.YtbljmfcifljkaaaGreatDoor
/-
  Rows that a call made itself: flat lists of cells, element by element. Own work; no program text.
-/
namespace Go.Proofs.YtbljmfcifljkaaaGreatDoor
open Go.RowKit
section flat
variable {α:Type} {f:α → List Value} {sz:Nat}
theorem flat_length (hf:∀ x,(f x).length=sz) (xs:List α):(xs.flatMap f).length=xs.length * sz:=by
 induction xs with
 | nil=>simp
 | cons x xs ih=>simp [ih,hf,Nat.add_mul];omega
theorem flat_get (hf:∀ x,(f x).length=sz) (xs:List α) (i j:Nat) (hi:i<xs.length) (hj:j<sz):(xs.flatMap f)[i * sz+j]?=(f xs[i])[j]?:=by
 induction xs generalizing i with
 | nil=>simp at hi
 | cons x xs ih =>
  cases i with
  | zero=>simp only [List.flatMap_cons,Nat.zero_mul,Nat.zero_add,List.getElem_cons_zero];rw [List.getElem?_append_left (by rw [hf];exact hj)]
  | succ i =>
   have hi':i<xs.length:=by simpa using hi
   simp only [List.flatMap_cons,List.getElem_cons_succ]
   rw [List.getElem?_append_right (by rw [hf,Nat.add_mul];omega),hf]
   rw [← ih i hi']
   congr 1
   rw [Nat.add_mul];omega
theorem flat_set (hf:∀ x,(f x).length=sz) (xs:List α) (i j:Nat) (hi:i<xs.length) (hj:j<sz) (v:Value) (y:α) (hy:f y=(f xs[i]).set j v) :
  (xs.flatMap f).set (i * sz+j) v=(xs.set i y).flatMap f:=by
 induction xs generalizing i with
 | nil=>simp at hi
 | cons x xs ih =>
  cases i with
  | zero =>
   simp only [List.flatMap_cons,Nat.zero_mul,Nat.zero_add,List.set_cons_zero]
   rw [List.set_append_left _ _ (by rw [hf];exact hj)]
   simp at hy;rw [hy]
  | succ i =>
   have hi':i<xs.length:=by simpa using hi
   simp only [List.flatMap_cons,List.set_cons_succ]
   rw [List.set_append_right _ _ (by rw [hf,Nat.add_mul];omega),hf]
   rw [← ih i hi' (by simpa using hy)]
   congr 2
   rw [Nat.add_mul];omega
theorem made_flat (z:α) (n:Nat) (hs:0<sz) (hz:(f z).length=sz):(madeCells (f z).toArray (n * sz)).toList=(List.replicate n z).flatMap f:=by
 apply List.ext_getElem?
 intro j
 have hl:((List.replicate n z).flatMap f).length=n * sz:=by
  induction n with
  | zero=>simp
  | succ n ih=>rw [List.replicate_succ,List.flatMap_cons,List.length_append,ih,hz,Nat.add_mul];omega
 by_cases hj:j<n * sz
 ·have hd:j=(j / sz) * sz+j % sz:=by rw [Nat.mul_comm];exact (Nat.div_add_mod j sz).symm
  have hq:j / sz<n:=Nat.div_lt_of_lt_mul (by rw [Nat.mul_comm];exact hj)
  have hr:j % sz<sz:=Nat.mod_lt _ hs
  have key:∀ (n q r:Nat),q<n → r<sz → ((List.replicate n z).flatMap f)[q * sz+r]?=(f z)[r]?:=by
   intro n
   induction n with
   | zero=>intro q r h;omega
   | succ n ih =>
    intro q r h hr
    rw [List.replicate_succ,List.flatMap_cons]
    cases q with
    | zero=>rw [Nat.zero_mul,Nat.zero_add,List.getElem?_append_left (by rw [hz];exact hr)]
    | succ q =>
     rw [List.getElem?_append_right (by rw [hz,Nat.add_mul];omega),hz,← ih q r (by omega) hr]
     congr 1
     rw [Nat.add_mul];omega
  have h2:=key n (j / sz) (j % sz) hq hr
  rw [← hd] at h2
  have e2:(f z)[j % sz]?=some ((f z)[j % sz]'(by rw [hz];exact hr)):=List.getElem?_eq_getElem _
  rw [h2,e2]
  simp [madeCells,hj,hz,e2]
 ·have hm:(madeCells (f z).toArray (n * sz)).toList.length=n * sz:=by simp [madeCells]
  rw [List.getElem?_eq_none (by omega),List.getElem?_eq_none (by omega)]
end flat
def ndCells (d:Nd):List Value:=[.int .i64 d.kind,.int .i64 d.value,.string d.name]
def dfCells (x:Df × Value):List Value:=[.string x.1.name,.int .i64 x.1.inn,.int .i64 x.1.out,x.2]
theorem ndCells_len (d:Nd):(ndCells d).length=3:=rfl
theorem dfCells_len (x:Df × Value):(dfCells x).length=4:=rfl
def NdsOwn (w:World) (B:Nat) (v:Value) (ns:List Nd):Prop:=w.ownsRow B 144 3 v ns.length (ns.flatMap ndCells)
theorem owns_slat {w:World} {B e sz:Nat} {v:Value} {n:Nat} {xs:List Value} (h:w.ownsRow B e sz v n xs) (R:Nat → Nat → Nat → Prop)
  (hr:∀ i b o,i<n → (∀ j,j<sz → w.cell? ⟨b,o+j,none⟩=xs[i * sz+j]?) → R i b o):SlAt sz v n R:=by
 have h':=h
 obtain ⟨hl,h2⟩:=h
 rcases h2 with ⟨rfl,rfl⟩|⟨g,cap,cur,rfl,hb,hh,hc,hm,hs,ht⟩
 ·exact ⟨none,0,rfl,Nat.le_refl _,fun i hi=>absurd hi (Nat.not_lt_zero _)⟩
 ·refine ⟨some ⟨g,0,none⟩,cap,rfl,hc,fun i hi=>⟨g,0,rfl,hr i g _ hi fun j hj=>?_⟩⟩
  rw [Nat.zero_add]
  refine h'.cellAt _ ?_
  have:(i+1) * sz≤n * sz:=Nat.mul_le_mul_right _ hi
  rw [Nat.add_mul] at this
  omega
theorem NdsOwn.at {w:World} {B:Nat} {v:Value} {ns:List Nd} (h:NdsOwn w B v ns):NdsAt w v ns:=by
 refine owns_slat h _ fun i b o hi hc=>⟨hi,?_⟩
 have g:∀ j,j<3 → w.cell? ⟨b,o+j,none⟩=(ndCells ns[i])[j]?:=fun j hj=>(hc j hj).trans (flat_get ndCells_len ns i j hi hj)
 exact ⟨g 0 (by omega),g 1 (by omega),g 2 (by omega)⟩
def Apart (a b:Value):Prop:=∀ k,a.ownBlock=some k → b.ownBlock ≠ some k
def DfsOwn (w:World) (B:Nat) (v:Value) (L:List Df):Prop :=
 ∃ xs:List (Df × Value),xs.map Prod.fst=L∧w.ownsRow B 151 4 v xs.length (xs.flatMap dfCells)∧(∀ x ∈ xs,NdsOwn w B x.2 x.1.body)∧xs.Pairwise fun x y=>Apart x.2 y.2
theorem DfsOwn.at {w:World} {B:Nat} {v:Value} {L:List Df} (h:DfsOwn w B v L):DfsAt w v L:=by
 obtain ⟨xs,rfl,ho,hb,_⟩:=h
 have ho':w.ownsRow B 151 4 v (xs.map Prod.fst).length (xs.flatMap dfCells):=by rw [List.length_map];exact ho
 refine owns_slat ho' _ fun i b o hi' hc=>⟨hi',?_⟩
 have hi:i<xs.length:=by simpa using hi' 
 have g:∀ j,j<4 → w.cell? ⟨b,o+j,none⟩=(dfCells xs[i])[j]?:=fun j hj=>(hc j hj).trans (flat_get dfCells_len xs i j hi hj)
 rw [List.getElem_map]
 exact ⟨g 0 (by omega),g 1 (by omega),g 2 (by omega),xs[i].2,g 3 (by omega),(hb _ (List.getElem_mem _)).at⟩
theorem owns_keep {w w':World} {B e sz:Nat} {v:Value} {n:Nat} {xs:List Value} (hb:Below w.heap.size w w') (h:w.ownsRow B e sz v n xs):w'.ownsRow B e sz v n xs:=by
 refine ⟨h.1,?_⟩
 rcases h.2 with hn|⟨g,cap,cur,rfl,hbb,hgg,rest⟩
 ·exact .inl hn
 ·exact .inr ⟨g,cap,cur,rfl,hbb,(hb.block g (Array.getElem?_eq_some_iff.1 hgg).1).trans hgg,rest⟩
theorem NdsOwn.keep {w w':World} {B:Nat} {v:Value} {ns:List Nd} (hb:Below w.heap.size w w') (h:NdsOwn w B v ns):NdsOwn w' B v ns:=owns_keep hb h
theorem DfsOwn.keep {w w':World} {B:Nat} {v:Value} {L:List Df} (hb:Below w.heap.size w w') (h:DfsOwn w B v L):DfsOwn w' B v L:=by
 obtain ⟨xs,h1,h2,h3,h4⟩:=h
 exact ⟨xs,h1,owns_keep hb h2,fun x hx=>(h3 x hx).keep hb,h4⟩
theorem owns_mono {w:World} {B B' e sz:Nat} {v:Value} {n:Nat} {xs:List Value} (hB:B'≤B) (h:w.ownsRow B e sz v n xs):w.ownsRow B' e sz v n xs:=by
 refine ⟨h.1,?_⟩
 rcases h.2 with hn|⟨g,cap,cur,rfl,hbb,rest⟩
 ·exact .inl hn
 ·exact .inr ⟨g,cap,cur,rfl,by omega,rest⟩
theorem NdsOwn.mono {w:World} {B B':Nat} {v:Value} {ns:List Nd} (hB:B'≤B) (h:NdsOwn w B v ns):NdsOwn w B' v ns:=owns_mono hB h
theorem DfsOwn.mono {w:World} {B B':Nat} {v:Value} {L:List Df} (hB:B'≤B) (h:DfsOwn w B v L):DfsOwn w B' v L:=by
 obtain ⟨xs,h1,h2,h3,h4⟩:=h
 exact ⟨xs,h1,owns_mono hB h2,fun x hx=>(h3 x hx).mono hB,h4⟩
theorem owns_ne {w:World} {B B' e e' sz sz':Nat} {v v':Value} {n n':Nat} {xs xs':List Value} (h:w.ownsRow B e sz v n xs) (h':w.ownsRow B' e' sz' v' n' xs') (he:e ≠ e'):Apart v v':=by
 intro k hk hk'
 rcases h.2 with ⟨rfl,_⟩|⟨g,cap,cur,rfl,_,hgg,_⟩
 ·simp [Value.ownBlock] at hk
 rcases h'.2 with ⟨rfl,_⟩|⟨g',cap',cur',rfl,_,hgg',_⟩
 ·simp [Value.ownBlock] at hk'
 simp [Value.ownBlock] at hk hk'
 subst hk;subst hk'
 rw [hgg] at hgg'
 simp at hgg'
 exact he hgg'.2
theorem owns_set {α:Type} {f:α → List Value} {w:World} {B e sz g n cap:Nat} {xs:List α} (hf:∀ x,(f x).length=sz)
  (h:w.ownsRow B e sz (.slice (some ⟨g,0,none⟩) n cap) n (xs.flatMap f)) (i j o:Nat) (hi:i<xs.length) (hj:j<sz) (ho:o=i * sz+j) (u:Value) (y:α) (hy:f y=(f xs[i]).set j u) :
  (w.setCell ⟨g,o,none⟩ u).ownsRow B e sz (.slice (some ⟨g,0,none⟩) n cap) n ((xs.set i y).flatMap f):=by
 subst ho
 have:=(h.stored (i * sz+j) u).1
 rw [flat_set hf xs i j hi hj u y hy] at this
 exact this
theorem owns_cell {α:Type} {f:α → List Value} {w:World} {B e sz g n cap:Nat} {xs:List α} (hf:∀ x,(f x).length=sz)
  (h:w.ownsRow B e sz (.slice (some ⟨g,0,none⟩) n cap) n (xs.flatMap f)) (i j:Nat) (hi:i<xs.length) (hj:j<sz):w.cell? ⟨g,i * sz+j,none⟩=(f xs[i])[j]?:=by
 have hl:=h.1
 rw [flat_length hf] at hl
 rw [h.cellAt (i * sz+j) ?_,flat_get hf xs i j hi hj]
 rw [← hl]
 have:(i+1) * sz≤xs.length * sz:=Nat.mul_le_mul_right _ hi
 rw [Nat.add_mul] at this
 omega
theorem nds_old {w:World} {B e g n cap:Nat} {xs:List Nd} (h:w.ownsRow B e 3 (.slice (some ⟨g,0,none⟩) n cap) n (xs.flatMap ndCells)) (i:Nat) (hi:i<xs.length) :
  ∃ (x y:Int) (z:ByteArray),w.cell? ⟨g,i * 3,none⟩=some (.int .i64 x)∧w.cell? ⟨g,i * 3+1,none⟩=some (.int .i64 y)∧w.cell? ⟨g,i * 3+2,none⟩=some (.string z) ∧
   w.frozen? ⟨g,i * 3,none⟩=false∧w.frozen? ⟨g,i * 3+1,none⟩=false∧w.frozen? ⟨g,i * 3+2,none⟩=false :=
 ⟨_,_,_,owns_cell ndCells_len h i 0 hi (by omega),owns_cell ndCells_len h i 1 hi (by omega),owns_cell ndCells_len h i 2 hi (by omega),h.frozenAt _,h.frozenAt _,h.frozenAt _⟩
theorem owns_other {w:World} {B e sz:Nat} {v:Value} {n:Nat} {xs:List Value} (h:w.ownsRow B e sz v n xs) (a:Addr) (u:Value) (hne:v.ownBlock ≠ some a.block):(w.setCell a u).ownsRow B e sz v n xs:=by
 refine ⟨h.1,?_⟩
 rcases h.2 with hn|⟨g,cap,cur,rfl,hbb,hgg,rest⟩
 ·exact .inl hn
 ·refine .inr ⟨g,cap,cur,rfl,hbb,?_,rest⟩
  rw [Below.heap_setCell _ _ _ _ (by intro hh;exact hne (by simp [Value.ownBlock,hh]))]
  exact hgg
theorem setCell_size (w:World) (a:Addr) (u:Value):(w.setCell a u).heap.size=w.heap.size:=by simp [World.setCell]
theorem set4 {α:Type} {f:α → List Value} {w:World} {B e g n cap:Nat} {xs:List α} (hf:∀ x,(f x).length=4)
  (h:w.ownsRow B e 4 (.slice (some ⟨g,0,none⟩) n cap) n (xs.flatMap f)) (i:Nat) (hi:i<xs.length) (a b c d:Value) (y:α) (hy:f y=[a,b,c,d]) :
  ((((w.setCell ⟨g,i * 4,none⟩ a).setCell ⟨g,i * 4+1,none⟩ b).setCell ⟨g,i * 4+2,none⟩ c).setCell ⟨g,i * 4+3,none⟩ d).ownsRow B e 4 (.slice (some ⟨g,0,none⟩) n cap) n ((xs.set i y).flatMap f):=by
 have hcat:∀ (l:List α) (j:Nat) (hj:j<l.length),l.flatMap f=(l.take j).flatMap f ++ f l[j] ++ (l.drop (j+1)).flatMap f:=by
  intro l j hj
  conv=>lhs;rw [← List.take_append_drop j l]
  rw [List.flatMap_append,List.append_assoc,List.drop_eq_getElem_cons hj,List.flatMap_cons]
 have hl:((xs.take i).flatMap f).length=i * 4:=by rw [flat_length hf,List.length_take];congr 1;omega
 have hset:((((xs.flatMap f).set (i * 4) a).set (i * 4+1) b).set (i * 4+2) c).set (i * 4+3) d=(xs.set i y).flatMap f:=by
  rw [hcat xs i hi,hcat (xs.set i y) i (by simpa using hi)]
  have hx:=hf xs[i]
  simp only [List.take_set_of_le (Nat.le_refl i),List.getElem_set_self,hy,List.drop_set_of_lt (Nat.lt_succ_self i)]
  match hxx:f xs[i],hx with
  | [p,q,r,s],_ =>
   rw [List.append_assoc]
   rw [List.set_append_right _ _ (by omega),hl,Nat.sub_self]
   rw [List.set_append_right _ _ (by omega),hl,Nat.add_sub_cancel_left]
   rw [List.set_append_right _ _ (by omega),hl,Nat.add_sub_cancel_left]
   rw [List.set_append_right _ _ (by omega),hl,Nat.add_sub_cancel_left]
   simp
 have h1:=(h.stored (i * 4) a).1
 have h2:=(h1.stored (i * 4+1) b).1
 have h3:=(h2.stored (i * 4+2) c).1
 have h4:=(h3.stored (i * 4+3) d).1
 rw [hset] at h4
 exact h4
theorem NdsOwn.slice {w:World} {B:Nat} {v:Value} {ns:List Nd} (h:NdsOwn w B v ns):∃ a cap,v=.slice a ns.length cap:=h.at.slice
end Go.Proofs.YtbljmfcifljkaaaGreatDoor
/-
  The marks that a law writes into a result, as plain lists. No program in sight. Own work.
-/
namespace Go.Proofs.YtbljmfcifljkaaaGreatDoor
open Go.RowKit
def mdig (k:Nat):UInt8:=UInt8.ofNat (48+k % 10)
def mgo (k:Nat) (out:List UInt8):List UInt8:=if h:k=0 then out else mgo (k / 10) (mdig k :: out)
termination_by k
decreasing_by omega
theorem mgo_zero (out:List UInt8):mgo 0 out=out:=by unfold mgo;simp
theorem mgo_pos {k:Nat} (h:0<k) (out:List UInt8):mgo k out=mgo (k / 10) (mdig k :: out):=by
 conv=>lhs;unfold mgo
 rw [dif_neg (by omega)]
def mtext (k:Int):ByteArray:=if k≤0 then ⟨#[109,48]⟩ else ⟨(109 :: mgo k.toNat []).toArray⟩
def mkNd (k:Int):Nd:=⟨k,k+1,mtext (k+2)⟩
def mkNds:Nat → Int → List Nd
 | 0,_=>[]
 | n+1,k=>mkNd k :: mkNds n (k+3)
theorem mkNds_length:∀ (n:Nat) (k:Int),(mkNds n k).length=n
 | 0,_=>rfl
 | n+1,k=>by simp [mkNds,mkNds_length n]
theorem mkNds_snoc:∀ (n:Nat) (k:Int),mkNds (n+1) k=mkNds n k ++ [mkNd (k+3 * n)]
 | 0,k=>by simp [mkNds]
 | n+1,k=>by
  rw [mkNds,mkNds_snoc n (k+3),mkNds]
  simp only [List.cons_append]
  congr 3
  congr 1
  omega
theorem mkNds_get (n:Nat):∀ (k:Int) (i:Nat) (h:i<(mkNds n k).length),(mkNds n k)[i]=mkNd (k+3 * i):=by
 induction n with
 | zero=>intro k i h;simp [mkNds] at h
 | succ n ih =>
  intro k i h
  cases i with
  | zero=>simp [mkNds]
  | succ i =>
   simp only [mkNds,List.getElem_cons_succ]
   rw [ih]
   congr 1
   omega
end Go.Proofs.YtbljmfcifljkaaaGreatDoor
