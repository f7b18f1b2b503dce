/-
  Libraries without a program in sight: good ones, unique names, types of terms. Own work.
-/
import Derived.Test.YtbljmfcifljkaaaGreatDoorYE
import Derived.Test.YtbljmfcifljkaaaGreatDoorYC
import Derived.Test.YtbljmfcifljkaaaGreatDoorYA
import Derived.Tactics
import Derived.Maps.AppendAt
set_option linter.all false
set_option maxRecDepth 100000
set_option maxHeartbeats 8000000
namespace Go.Proofs.YtbljmfcifljkaaaGreatDoor
open Go.RowKit
def Uniq (L:List Df):Prop:=L.Pairwise fun a b=>a.name ≠ b.name
theorem lastD_uniq (L:List Df) (s:ByteArray) (h:Uniq L):lastD L s=findD L s:=by
 unfold lastD findD
 induction L with
 | nil=>rfl
 | cons d r ih =>
  have h':=List.pairwise_cons.1 h
  rw [List.reverse_cons,List.find?_append,ih h'.2]
  by_cases hd:d.name=s
  ·have:(r.find? fun d=>decide (d.name=s))=none:=by
    rw [List.find?_eq_none]
    intro x hx
    simpa using fun e=>h'.1 x hx (hd.trans e.symm)
   rw [this]
   simp [hd]
  ·simp [hd]
theorem leafT_eq {L:List Df} (h:Uniq L) (n:Nd) (h1:¬ (n.kind=15∨n.kind=16)):leafT L n=leafIn L n:=by
 unfold leafT typRes
 by_cases hk:n.kind=17
 ·rw [if_pos hk,lastD_uniq L _ h]
  unfold leafIn
  rw [if_pos hk]
  cases hf:findD L n.name with
  | none=>simp
  | some d=>by_cases hv:n.value=0 <;> simp [hv]
 ·rw [if_neg hk,leafRes_ok n hk (by omega) (by omega)]
  unfold leafIn
  rw [if_neg hk,if_neg hk]
theorem typedGo_congr {f g:Nd → Option W2} (h:∀ n,¬ (n.kind=15∨n.kind=16) → f n=g n):∀ (ns:List Nd) (st:List W2),typedGo f ns st=typedGo g ns st
 | [],st=>rfl
 | n :: r,st=>by
  unfold typedGo
  split
  ·split
   ·split
    ·split
     ·exact typedGo_congr h r _
     ·rfl
    ·rfl
   ·rfl
  ·rename_i hk
   rw [h n hk]
   split
   ·exact typedGo_congr h r _
   ·rfl
theorem typedL_congr {f g:Nd → Option W2} (h:∀ n,¬ (n.kind=15∨n.kind=16) → f n=g n) (ns:List Nd):typedL f ns=typedL g ns:=by
 unfold typedL;rw [typedGo_congr h]
theorem typedL_uniq {L:List Df} (h:Uniq L) (ns:List Nd):typedL (leafT L) ns=typedL (leafIn L) ns:=typedL_congr (leafT_eq h) ns
theorem typedGo_sm {leaf:Nd → Option W2} (h:∀ n x,¬ (n.kind=15∨n.kind=16) → leaf n=some x → Sm x):∀ (ns:List Nd) (st st':List W2),(∀ x ∈ st,Sm x) → typedGo leaf ns st=some st' → ∀ x ∈ st',Sm x
 | [],st,st',hs,he=>by
  obtain rfl:=Option.some.inj he
  exact hs
 | n :: r,st,st',hs,he=>by
  unfold typedGo at he
  split at he
  ·split at he
   ·split at he
    ·rename_i b a st0
     split at he
     ·rename_i x hx
      refine typedGo_sm h r _ st' ?_ he
      intro y hy
      rcases List.mem_cons.1 hy with rfl|hy
      ·exact joinW_sm (hs a (by simp)) (hs b (by simp)) hx
      ·exact hs y (by simp [hy])
     ·cases he
    ·cases he
   ·cases he
  ·rename_i hk
   split at he
   ·rename_i x hx
    refine typedGo_sm h r _ st' ?_ he
    intro y hy
    rcases List.mem_cons.1 hy with rfl|hy
    ·exact h n _ hk hx
    ·exact hs y hy
   ·cases he
theorem typedL_sm {leaf:Nd → Option W2} (h:∀ n x,¬ (n.kind=15∨n.kind=16) → leaf n=some x → Sm x) {ns:List Nd} {t:W2} (he:typedL leaf ns=some t):Sm t:=by
 unfold typedL at he
 split at he
 ·split at he
  ·rename_i x hx
   obtain rfl:=Option.some.inj he
   exact typedGo_sm h ns [] _ (by simp) hx _ (by simp)
  ·cases he
 ·cases he
def goodAt (L:List Df) (d:Df):Bool:=decide (typedL (leafIn L) d.body=some (d.inn,d.out)) && nameB d.name && (findD L d.name).isNone
def goodGo:List Df → List Df → Bool
 | _,[]=>true
 | P,d :: r=>goodAt P d && goodGo (P ++ [d]) r
def good (L:List Df):Bool:=decide (L.length≤12) && goodGo [] L
theorem goodGo_uniq:∀ (P A:List Df),Uniq P → goodGo P A=true → Uniq (P ++ A)
 | P,[],h,_=>by simpa using h
 | P,d :: r,h,hg=>by
  simp only [goodGo,goodAt,Bool.and_eq_true] at hg
  have:=goodGo_uniq (P ++ [d]) r ?_ hg.2
  ·simpa using this
  ·unfold Uniq
   rw [List.pairwise_append]
   refine ⟨h,by simp,?_⟩
   intro a ha b hb e
   simp at hb
   subst hb
   have hn:=hg.1.2
   unfold findD at hn
   rw [Option.isNone_iff_eq_none,List.find?_eq_none] at hn
   exact absurd e (by simpa using hn a ha)
theorem goodGo_sm:∀ (P A:List Df),Uniq P → (∀ d ∈ P,Sm (d.inn,d.out)) → goodGo P A=true → ∀ d ∈ P ++ A,Sm (d.inn,d.out)
 | P,[],_,h,_=>by simpa using h
 | P,d :: r,hu,h,hg=>by
  have hu':=goodGo_uniq P [d] hu (by simp only [goodGo,Bool.and_eq_true] at hg ⊢;exact ⟨hg.1,trivial⟩)
  simp only [goodGo,goodAt,Bool.and_eq_true,decide_eq_true_eq] at hg
  have:=goodGo_sm (P ++ [d]) r hu' ?_ hg.2
  ·simpa using this
  ·intro x hx
   rcases List.mem_append.1 hx with hx|hx
   ·exact h x hx
   ·simp at hx
    subst hx
    exact typedL_sm (fun n x hk hx=>leafT_sm h ((leafT_eq hu n hk).trans hx)) hg.1.1.1
theorem good_uniq {L:List Df} (h:goodGo [] L=true):Uniq L:=by simpa using goodGo_uniq [] L List.Pairwise.nil h
theorem good_sm {L:List Df} (h:goodGo [] L=true):∀ d ∈ L,Sm (d.inn,d.out):=by simpa using goodGo_sm [] L List.Pairwise.nil (by simp) h
theorem findFrom_cases (name:ByteArray):∀ (L:List Df) (k:Nat),(findFrom name L k=-1∧findD L name=none)∨∃ (i:Nat) (hi:i<L.length),findFrom name L k=((k+i:Nat):Int)∧findD L name=some L[i]
 | [],k=>.inl ⟨rfl,rfl⟩
 | d :: r,k=>by
  unfold findFrom findD
  by_cases h:d.name=name
  ·rw [if_pos h]
   exact .inr ⟨0,by simp,by simp,by simp [h]⟩
  ·rw [if_neg h]
   rcases findFrom_cases name r (k+1) with ⟨h1,h2⟩|⟨i,hi,h1,h2⟩
   ·exact .inl ⟨h1,by simp [h];simpa [findD] using h2⟩
   ·refine .inr ⟨i+1,by simpa using hi,by rw [h1];congr 1;omega,?_⟩
    rw [List.find?_cons_of_neg (by simpa using h)]
    simpa [findD] using h2
end Go.Proofs.YtbljmfcifljkaaaGreatDoor
/-
  Libraries and entries without a program in sight: what adding, removing, renaming and applying come to. Own work.
-/
namespace Go.Proofs.YtbljmfcifljkaaaGreatDoor
open Go.RowKit
def okL (L:List Df):Option (List Df):=if good L then some L else none
def addL (L:List Df) (d:Df):Option (List Df):=if good L then okL (L ++ [d]) else none
def remL (L:List Df) (s:ByteArray):Option (List Df):=if good L=true∧0≤findFrom s L 0 then okL (L.eraseIdx (findFrom s L 0).toNat) else none
def renN (a b:ByteArray) (n:Nd):Nd:=if n.kind=17∧n.name=a then ⟨n.kind,n.value,b⟩ else n
def renD (a b:ByteArray) (d:Df):Df:=⟨if d.name=a then b else d.name,d.inn,d.out,d.body.map (renN a b)⟩
def renL (L:List Df) (a b:ByteArray):Option (List Df):=if good L=true∧0≤findFrom a L 0 then okL (L.map (renD a b)) else none
def joD (L:List Df) (e:En):Df:=⟨e.name,((typedL (leafIn L) e.body).getD (0,0)).1,((typedL (leafIn L) e.body).getD (0,0)).2,e.body⟩
def plainE (e:En):Bool:=(decide (e.kind=3) || decide (e.to=ByteArray.empty)) && (decide (e.kind=1) || decide (e.body=[]))
def applyE (L:List Df) (e:En):Option (List Df) :=
 if good L=true∧plainE e=true then
  (if e.kind=1 then addL L (joD L e) else if e.kind=2 then remL L e.name else if e.kind=3 then renL L e.name e.to else none)
 else none
theorem nameB_size {s:ByteArray} (h:nameB s=true):s.size≤8:=by
 unfold nameB wordB at h
 split at h
 ·omega
 ·simp at h
theorem typedL_len {f:Nd → Option W2} {ns:List Nd} {t:W2} (h:typedL f ns=some t):ns.length≤400:=by
 unfold typedL at h
 split at h
 ·omega
 ·cases h
theorem typedGo_names {L:List Df} (h8:∀ d ∈ L,d.name.size≤8):∀ (ns:List Nd) (st st':List W2),typedGo (leafIn L) ns st=some st' → ∀ n ∈ ns,n.name.size≤8
 | [],_,_,_,n,hn=>by simp at hn
 | m :: r,st,st',he,n,hn=>by
  unfold typedGo at he
  split at he
  ·split at he
   ·rename_i hvn
    split at he
    ·split at he
     ·rcases List.mem_cons.1 hn with rfl|hn
      ·rw [hvn.2];decide
      ·exact typedGo_names h8 r _ st' he n hn
     ·cases he
    ·cases he
   ·cases he
  ·split at he
   ·rename_i x hx
    rcases List.mem_cons.1 hn with rfl|hn
    ·unfold leafIn at hx
     split at hx
     ·split at hx
      ·cases hf:findD L n.name with
       | none=>rw [hf] at hx;cases hx
       | some d =>
        unfold findD at hf
        have h1:=List.mem_of_find?_eq_some hf
        have h2:=List.find?_some hf
        simp only [decide_eq_true_eq] at h2
        rw [← h2];exact h8 d h1
      ·cases hx
     ·split at hx
      ·rename_i hl
       simp only [leafB,Bool.and_eq_true,decide_eq_true_eq] at hl
       rw [hl.1.1.1];decide
      ·cases hx
    ·exact typedGo_names h8 r _ st' he n hn
   ·cases he
def Bnd (L:List Df):Prop:=∀ d ∈ L,d.name.size≤8∧d.body.length≤400∧∀ n ∈ d.body,n.name.size≤8
theorem typedL_names {L:List Df} (h8:∀ d ∈ L,d.name.size≤8) {ns:List Nd} {t:W2} (h:typedL (leafIn L) ns=some t):∀ n ∈ ns,n.name.size≤8:=by
 unfold typedL at h
 split at h
 ·split at h
  ·rename_i x hx
   exact typedGo_names h8 ns _ _ hx
  ·cases h
 ·cases h
theorem goodGo_bnd:∀ (P A:List Df),Bnd P → goodGo P A=true → Bnd (P ++ A)
 | P,[],h,_=>by simpa using h
 | P,d :: r,h,hg=>by
  simp only [goodGo,goodAt,Bool.and_eq_true,decide_eq_true_eq] at hg
  have:=goodGo_bnd (P ++ [d]) r ?_ hg.2
  ·simpa using this
  ·intro x hx
   rcases List.mem_append.1 hx with hx|hx
   ·exact h x hx
   ·simp at hx
    subst hx
    exact ⟨nameB_size hg.1.1.2,typedL_len hg.1.1.1,typedL_names (fun d hd=>(h d hd).1) hg.1.1.1⟩
theorem good_bnd {L:List Df} (h:good L=true):Bnd L:=by
 simp only [good,Bool.and_eq_true] at h
 simpa using goodGo_bnd [] L (by intro d hd;simp at hd) h.2
theorem good_len {L:List Df} (h:good L=true):L.length≤12:=by simp [good] at h;exact h.1
end Go.Proofs.YtbljmfcifljkaaaGreatDoor
/-
  Rows of definitions in which one name, or the name in one node, is written. Own work.
-/
namespace Go.Proofs.YtbljmfcifljkaaaGreatDoor
open Go.RowKit
section
variable {a b:ByteArray}
end
end Go.Proofs.YtbljmfcifljkaaaGreatDoor
/-
  The parts of a term by their first nodes, against the stack of types. No program in sight. Own work.
-/
namespace Go.Proofs.YtbljmfcifljkaaaGreatDoor
open Go.RowKit
def Chain:List (Nat × W2) → List W2 → Prop
 | X,[]=>X=[]
 | X,t :: st=>∃ Y f,X=Y ++ [(f,t)]∧f≤Y.length∧Chain (Y.take f) st
theorem chain_push {X:List (Nat × W2)} {st:List W2} (h:Chain X st) (t:W2):Chain (X ++ [(X.length,t)]) (t :: st) :=
 ⟨X,X.length,rfl,Nat.le_refl _,by rw [List.take_length];exact h⟩
theorem chain_two {X:List (Nat × W2)} {a b:W2} {st:List W2} (h:Chain X (b :: a :: st)) :
  ∃ f g:Nat,X[X.length - 1]?=some (f,b)∧1≤f∧f<X.length∧X[f - 1]?=some (g,a)∧g<f∧∀ t,Chain (X ++ [(g,t)]) (t :: st):=by
 obtain ⟨Y,f,rfl,hf,Z,g,hZ,hg,hc⟩:=h
 have hl:=congrArg List.length hZ
 simp only [List.length_take,List.length_append,List.length_cons,List.length_nil] at hl
 have hfl:f=Z.length+1:=by omega
 subst hfl
 refine ⟨Z.length+1,g,?_,by omega,by simp;omega,?_,by omega,?_⟩
 ·simp
 ·rw [Nat.add_sub_cancel,List.getElem?_append_left (by omega)]
  have h2:=congrArg (fun l=>l[Z.length]?) hZ
  simp only [List.getElem?_take] at h2
  rw [if_pos (by omega)] at h2
  simpa using h2
 ·intro t
  refine ⟨_,g,rfl,by simp;omega,?_⟩
  have:List.take g (Y ++ [(Z.length+1,b)])=List.take g Z:=by
   rw [List.take_append_of_le_length (by omega)]
   have h3:=congrArg (List.take g) hZ
   rw [List.take_take,Nat.min_eq_left (by omega),List.take_append_of_le_length hg] at h3
   exact h3
  rw [this]
  exact hc
theorem chain_one {X:List (Nat × W2)} {b:W2} (h:Chain X [b]):1≤X.length∧X[X.length - 1]?=some (0,b):=by
 obtain ⟨Y,f,rfl,hf,hc⟩:=h
 have hc':Y.take f=[]:=hc
 have:=congrArg List.length hc'
 simp only [List.length_take,List.length_nil] at this
 obtain rfl:f=0:=by omega
 exact ⟨by simp,by simp⟩
theorem chain_nil {X:List (Nat × W2)} (h:Chain X []):X=[]:=h
end Go.Proofs.YtbljmfcifljkaaaGreatDoor
/-
  Three own rows of numbers in the fields of a struct. Own work.
-/
namespace Go.Proofs.YtbljmfcifljkaaaGreatDoor
open Go.RowKit
def iCell (x:Int):List Value:=[.int .i64 x]
theorem iCell_len (x:Int):(iCell x).length=1:=rfl
def Rw (w:World) (B:Nat) (v:Value) (xs:List Int):Prop:=w.ownsRow B 3 1 v xs.length (xs.flatMap iCell)
theorem Rw.keep {w w':World} {B:Nat} {v:Value} {xs:List Int} (hb:Below w.heap.size w w') (h:Rw w B v xs):Rw w' B v xs:=owns_keep hb h
theorem Rw.grown {w w':World} {B:Nat} {v:Value} {xs:List Int} {row:Option Nat} (h:Rw w B v xs) (hg:w.grownBy w' row) (hr:∀ k,v.ownBlock=some k → row ≠ some k):Rw w' B v xs:=by
 refine ⟨h.1,?_⟩
 rcases h.2 with hn|⟨g,cap,cur,rfl,hbb,hgg,rest⟩
 ·exact .inl hn
 ·exact .inr ⟨g,cap,cur,rfl,hbb,(hg.block g (Array.getElem?_eq_some_iff.1 hgg).1 (fun e=>hr g rfl e.symm)).trans hgg,rest⟩
theorem Rw.other {w:World} {B:Nat} {v:Value} {xs:List Int} (h:Rw w B v xs) (a:Addr) (u:Value) (ha:a.block<B):Rw (w.setCell a u) B v xs :=
 owns_other h a u (fun e=>by have:=(World.ownsRow.lt h _ e).1;omega)
theorem Rw.cell {w:World} {B g cap n:Nat} {xs:List Int} (h:Rw w B (.slice (some ⟨g,0,none⟩) n cap) xs) (i:Nat) (hi:i<xs.length):w.cell? ⟨g,i,none⟩=some (.int .i64 xs[i]):=by
 have hn:n=xs.length:=by
  rcases h.2 with ⟨h',_⟩|⟨g',cap',cur,h',_⟩
  ·simp at h'
  ·simp only [Value.slice.injEq] at h';exact h'.2.1
 subst hn
 have:=owns_cell iCell_len h i 0 hi (by omega)
 simpa [iCell] using this
structure Rows3 (w:World) (B xb:Nat) (v0 v1 v2:Value) (xs0 xs1 xs2:List Int):Prop where
 lt:xb<B
 bz:xb<w.heap.size
 x0:w.cell? ⟨xb,0,none⟩=some v0
 x1:w.cell? ⟨xb,1,none⟩=some v1
 x2:w.cell? ⟨xb,2,none⟩=some v2
 fx:∀ j,w.frozen? ⟨xb,j,none⟩=false
 r0:Rw w B v0 xs0
 r1:Rw w B v1 xs1
 r2:Rw w B v2 xs2
 a01:Apart v0 v1
 a02:Apart v0 v2
 a12:Apart v1 v2
theorem Apart.symm {a b:Value} (h:Apart a b):Apart b a:=fun k hk hk'=>h k hk' hk
theorem Rows3.keep {w w':World} {B xb:Nat} {v0 v1 v2:Value} {xs0 xs1 xs2:List Int} (h:Rows3 w B xb v0 v1 v2 xs0 xs1 xs2) (hb:Below w.heap.size w w'):Rows3 w' B xb v0 v1 v2 xs0 xs1 xs2:=by
 obtain ⟨lt,bz,x0,x1,x2,fx,r0,r1,r2,a1,a2,a3⟩:=h
 exact ⟨lt,Nat.lt_of_lt_of_le bz hb.size,cell_keep hb x0,cell_keep hb x1,cell_keep hb x2,fun j=>(hb.frozen (p:=⟨xb,j,none⟩) bz).trans (fx j),r0.keep hb,r1.keep hb,r2.keep hb,a1,a2,a3⟩
theorem apart_grown {w:World} {B:Nat} {v v' u:Value} {xs:List Int} (h:Apart v u) (hu:Rw w B u xs) (hv:v'.ownBlock=v.ownBlock∨v'.ownBlock=some w.heap.size):Apart v' u:=by
 intro k hk hk'
 rcases hv with e|e
 ·exact h k (e ▸ hk) hk'
 ·rw [e] at hk
  obtain rfl:=Option.some.inj hk
  have:=(World.ownsRow.lt hu _ hk').2
  omega
theorem grown_cell {w w':World} {row:Option Nat} (hg:w.grownBy w' row) {b o:Nat} (hb:b<w.heap.size) (hr:row ≠ some b):w'.cell? ⟨b,o,none⟩=w.cell? ⟨b,o,none⟩∧w'.frozen? ⟨b,o,none⟩=w.frozen? ⟨b,o,none⟩ :=
 have e:=hg.block b hb (fun e=>hr e.symm)
 ⟨World.cell?_of_block (w:=w) e,World.frozen?_of_block (w:=w) e⟩
theorem row_ne {w:World} {B xb:Nat} {v:Value} {xs:List Int} (h:Rw w B v xs) (hx:xb<B):v.ownBlock ≠ some xb:=fun e=>by have:=(World.ownsRow.lt h _ e).1;omega
section
variable {w w':World} {B xb:Nat} {v0 v1 v2 v':Value} {xs0 xs1 xs2:List Int} {f:Int}
theorem Rows3.app0 (h:Rows3 w B xb v0 v1 v2 xs0 xs1 xs2) (hg:w.grownBy w' v0.ownBlock) (hr:Rw w' B v' (xs0 ++ [f])) (ho:v'.ownBlock=v0.ownBlock∨v'.ownBlock=some w.heap.size) :
  Rows3 (w'.setCell ⟨xb,0,none⟩ v') B xb v' v1 v2 (xs0 ++ [f]) xs1 xs2:=by
 obtain ⟨lt,bz,x0,x1,x2,fx,r0,r1,r2,a1,a2,a3⟩:=h
 have hn:=row_ne r0 lt
 have c:=fun o=>grown_cell hg (o:=o) bz hn
 have hz:xb<w'.heap.size:=Nat.lt_of_lt_of_le bz hg.size
 have e0:=(c 0).1.trans x0
 refine ⟨lt,by simpa using hz,?_,?_,?_,?_,hr.other _ _ lt,(r1.grown hg fun k hk e=>a1 k e hk).other _ _ lt,(r2.grown hg fun k hk e=>a2 k e hk).other _ _ lt,apart_grown a1 r1 ho,apart_grown a2 r2 ho,a3⟩
 ·simp [go_sem,e0]
 ·simp [go_sem,(c 1).1,x1]
 ·simp [go_sem,(c 2).1,x2]
 ·intro j;simp [go_sem,(c j).2,fx]
theorem Rows3.app1 (h:Rows3 w B xb v0 v1 v2 xs0 xs1 xs2) (hg:w.grownBy w' v1.ownBlock) (hr:Rw w' B v' (xs1 ++ [f])) (ho:v'.ownBlock=v1.ownBlock∨v'.ownBlock=some w.heap.size) :
  Rows3 (w'.setCell ⟨xb,1,none⟩ v') B xb v0 v' v2 xs0 (xs1 ++ [f]) xs2:=by
 obtain ⟨lt,bz,x0,x1,x2,fx,r0,r1,r2,a1,a2,a3⟩:=h
 have hn:=row_ne r1 lt
 have c:=fun o=>grown_cell hg (o:=o) bz hn
 have hz:xb<w'.heap.size:=Nat.lt_of_lt_of_le bz hg.size
 have e1:=(c 1).1.trans x1
 refine ⟨lt,by simpa using hz,?_,?_,?_,?_,(r0.grown hg fun k hk e=>a1 k hk e).other _ _ lt,hr.other _ _ lt,(r2.grown hg fun k hk e=>a3 k e hk).other _ _ lt,(apart_grown a1.symm r0 ho).symm,a2,apart_grown a3 r2 ho⟩
 ·simp [go_sem,(c 0).1,x0]
 ·simp [go_sem,e1]
 ·simp [go_sem,(c 2).1,x2]
 ·intro j;simp [go_sem,(c j).2,fx]
theorem Rows3.app2 (h:Rows3 w B xb v0 v1 v2 xs0 xs1 xs2) (hg:w.grownBy w' v2.ownBlock) (hr:Rw w' B v' (xs2 ++ [f])) (ho:v'.ownBlock=v2.ownBlock∨v'.ownBlock=some w.heap.size) :
  Rows3 (w'.setCell ⟨xb,2,none⟩ v') B xb v0 v1 v' xs0 xs1 (xs2 ++ [f]):=by
 obtain ⟨lt,bz,x0,x1,x2,fx,r0,r1,r2,a1,a2,a3⟩:=h
 have hn:=row_ne r2 lt
 have c:=fun o=>grown_cell hg (o:=o) bz hn
 have hz:xb<w'.heap.size:=Nat.lt_of_lt_of_le bz hg.size
 have e2:=(c 2).1.trans x2
 refine ⟨lt,by simpa using hz,?_,?_,?_,?_,(r0.grown hg fun k hk e=>a2 k hk e).other _ _ lt,(r1.grown hg fun k hk e=>a3 k hk e).other _ _ lt,hr.other _ _ lt,a1,(apart_grown a2.symm r0 ho).symm,(apart_grown a3.symm r1 ho).symm⟩
 ·simp [go_sem,(c 0).1,x0]
 ·simp [go_sem,(c 1).1,x1]
 ·simp [go_sem,e2]
 ·intro j;simp [go_sem,(c j).2,fx]
end
end Go.Proofs.YtbljmfcifljkaaaGreatDoor
/-
  Append of one number to an own row. Own work.
-/
namespace Go.Proofs.YtbljmfcifljkaaaGreatDoor
open Go.RowKit
theorem infoInt:(Tryz.prog.info? 3).map (fun i=>(i.zero,i.size,i.bytes))=some (some (.int .i64 0),1,8):=by kernel_rfl
theorem int_append {ops:Array Oper} {rest:List Oper} {o:Oper} {a:Act} {Q:Exit → Act → World → Prop} {w:World} (hgd:o.guard=none) (s x:Operand)
  (ho:o.op=.call { callee:=.builtin .append,args:=#[s,x],argTypes:=#[40,40] })
  (B:Nat) (v:Value) (xs:List Int) (f:Int) (tt:TypeId) (g:Nat) (hg:g=w.heap.size) (hs:a.eval s=v) (hx:a.eval x=.slice (some ⟨g,0,none⟩) 1 1) (hown:Rw w B v xs) (hB:B≤w.heap.size) (hl:xs.length≤1048576)
  (h:∀ v' w',Rw w' B v' (xs ++ [f]) → (w.alloc (.cells #[.int .i64 f] tt)).grownBy w' v.ownBlock → (v'.ownBlock=v.ownBlock∨v'.ownBlock=some (w.alloc (.cells #[.int .i64 f] tt)).heap.size) →
   wpList Tryz.prog ops Q rest (a.put o.dst v') w'):wpList Tryz.prog ops Q (o :: rest) a (w.alloc (.cells #[.int .i64 f] tt)):=by
 subst hg
 obtain ⟨i0,hi,hz0,hz1,hz2⟩:=info_parts infoInt
 have hown':(w.alloc (.cells #[.int .i64 f] tt)).ownsRow B 3 1 v xs.length (xs.flatMap iCell):=owns_keep ((Below.refl _ _).alloc (Nat.le_refl _) _) hown
 refine wpList_append_own_at _ hgd s x 40 ho B 3 i0 _ 1 8 Tryz.underlying40 hi hz0 hz1 hz2 rfl (by decide) v xs.length (xs.flatMap iCell) hs hown' _ 1 1 [.int .i64 f] hx rfl (cell_one_new _ _ _) (by intro u hu;simp at hu;subst hu;rfl) (by unfold maxLen;omega) (by omega) (by simp;omega) ?_
 intro v' w' h1 h2 _ h4
 refine h v' w' ?_ h2 h4
 unfold Rw
 rw [List.length_append,List.flatMap_append]
 exact h1
end Go.Proofs.YtbljmfcifljkaaaGreatDoor
