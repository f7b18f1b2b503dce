/-
  The plain data of the parser, library and journal chapters, and what it means that a world holds them. Own work; no given text.
-/
import Derived.WalkKit
import Derived.Lib.Hide
import Derived.Test.YtikgblkfmpecfaaGreatDoorProg
import Derived.WalkLawsBesides
import Derived.WalkSpells
set_option linter.all false
set_option maxRecDepth 100000
set_option maxHeartbeats 8000000
namespace Go.Proofs.YtikgblkfmpecfaaGreatDoor
open Go.RowKit
structure Nd where
 kind:Int
 value:Int
 name:ByteArray
 deriving DecidableEq
structure Df where
 name:ByteArray
 inn:Int
 out:Int
 body:List Nd
 deriving DecidableEq
structure En where
 kind:Int
 name:ByteArray
 to:ByteArray
 body:List Nd
 deriving DecidableEq
def iT (sz:Nat) (v:Value) (n:Nat) (R:Nat->Nat->Nat->Prop):Prop :=
 ∃a cap,v=.slice a n cap/\n<=cap/\∀i,i<n->∃b o,a=some ⟨b,o,none⟩/\R i b (o+i*sz)
def IC (w:World) (d:Nd) (b o:Nat):Prop :=
 w.cell? ⟨b,o,none⟩=some (.int .i64 d.kind)/\w.cell? ⟨b,o+1,none⟩=some (.int .i64 d.value)/\w.cell? ⟨b,o+2,none⟩=some (.string d.name)
def aZ (w:World) (v:Value) (ns:List Nd):Prop:=iT 3 v ns.length λi b o=>∃h:i<ns.length,IC w ns[i] b o
def IE (w:World) (d:Df) (b o:Nat):Prop :=
 w.cell? ⟨b,o,none⟩=some (.string d.name)/\w.cell? ⟨b,o+1,none⟩=some (.int .i64 d.inn)/\w.cell? ⟨b,o+2,none⟩=some (.int .i64 d.out) /\
  ∃v,w.cell? ⟨b,o+3,none⟩=some v/\aZ w v d.body
def aG (w:World) (v:Value) (L:List Df):Prop:=iT 4 v L.length λi b o=>∃h:i<L.length,IE w L[i] b o
def ER (w:World) (e:En) (b o:Nat):Prop :=
 w.cell? ⟨b,o,none⟩=some (.int .i64 e.kind)/\w.cell? ⟨b,o+1,none⟩=some (.string e.name)/\w.cell? ⟨b,o+2,none⟩=some (.string e.to) /\
  ∃v,w.cell? ⟨b,o+3,none⟩=some v/\aZ w v e.body
def tu (w:World) (v:Value) (L:List En):Prop:=iT 4 v L.length λi b o=>∃h:i<L.length,ER w L[i] b o
theorem cell_lt {w:World} {b o:Nat} {v:Value} (h:w.cell? ⟨b,o,none⟩=some v):b<w.heap.size:=by
 have:=World.block_lt_of_cell? w ⟨b,o,none⟩ h;exact this
theorem ak {w w':World} (hb:Below w.heap.size w w') {b o:Nat} {v:Value} (h:w.cell? ⟨b,o,none⟩=some v):w'.cell? ⟨b,o,none⟩=some v :=
 (hb.cell (p:=⟨b,o,none⟩) (cell_lt h)).trans h
theorem iT.mono {sz:Nat} {v:Value} {n:Nat} {R R':Nat->Nat->Nat->Prop} (h:iT sz v n R) (hr:∀i b o,R i b o->R' i b o):iT sz v n R':=by
 obtain⟨a,cap,rfl,hc,h⟩:=h;exact⟨a,cap,rfl,hc,λi hi=>let⟨b,o,e,r⟩:=h i hi;⟨b,o,e,hr _ _ _ r⟩⟩
theorem IC.keep {w w':World} (hb:Below w.heap.size w w') {d:Nd} {b o:Nat} (h:IC w d b o):IC w' d b o :=
 ⟨ak hb h.1,ak hb h.2.1,ak hb h.2.2⟩
theorem aZ.keep {w w':World} (hb:Below w.heap.size w w') {v:Value} {ns:List Nd} (h:aZ w v ns):aZ w' v ns :=
 iT.mono h λ_ _ _ ⟨hi,r⟩=>⟨hi,r.keep hb⟩
theorem IE.keep {w w':World} (hb:Below w.heap.size w w') {d:Df} {b o:Nat} (h:IE w d b o):IE w' d b o:=by
 obtain⟨h1,h2,h3,v,h4,h5⟩:=h;exact⟨ak hb h1,ak hb h2,ak hb h3,v,ak hb h4,h5.keep hb⟩
theorem aG.keep {w w':World} (hb:Below w.heap.size w w') {v:Value} {L:List Df} (h:aG w v L):aG w' v L :=
 iT.mono h λ_ _ _ ⟨hi,r⟩=>⟨hi,r.keep hb⟩
theorem ER.keep {w w':World} (hb:Below w.heap.size w w') {d:En} {b o:Nat} (h:ER w d b o):ER w' d b o:=by
 obtain⟨h1,h2,h3,v,h4,h5⟩:=h;exact⟨ak hb h1,ak hb h2,ak hb h3,v,ak hb h4,h5.keep hb⟩
theorem tu.keep {w w':World} (hb:Below w.heap.size w w') {v:Value} {L:List En} (h:tu w v L):tu w' v L :=
 iT.mono h λ_ _ _ ⟨hi,r⟩=>⟨hi,r.keep hb⟩
theorem aZ.slice {w:World} {v:Value} {ns:List Nd} (h:aZ w v ns):∃a cap,v=.slice a ns.length cap:=by
 obtain⟨a,cap,rfl,_⟩:=h;exact⟨a,cap,rfl⟩
theorem wO {k:IntKind} {a b:Int} (h:a=b):Ending.returned (.int k a)=.returned (.int k b):=by rw[h]
theorem dI {a b:Bool} (h:a=b):Ending.returned (.bool a)=.returned (.bool b):=by rw[h]
theorem bH {W w1:World} (hb:Below W.heap.size W w1):(∀b o,b<W.heap.size->w1.cell? ⟨b,o,none⟩=W.cell? ⟨b,o,none⟩)/\(∀b o,b<W.heap.size->w1.frozen? ⟨b,o,none⟩=W.frozen? ⟨b,o,none⟩)/\W.heap.size<=w1.heap.size :=
 ⟨λb o h=>hb.cell (p:=⟨b,o,none⟩) h,λb o h=>hb.frozen (p:=⟨b,o,none⟩) h,hb.size⟩
theorem jy {w:World} {b o:Nat} {v:Value} (h:w.cell? ⟨b,o,none⟩=some v) (ob:Obj):(w.alloc ob).cell? ⟨b,o,none⟩=some v :=
 ak ((Below.refl _ _).alloc (Nat.le_refl _) _) h
def kL (ns:List Nd):Prop:=(∀d∈ns,d.name.size<=1048576)/\ns.length<=1048576
def dN (d:Df):Prop:=d.name.size<=1048576/\kL d.body
def dW (d:En):Prop:=d.name.size<=1048576/\d.to.size<=1048576/\kL d.body
section flat
variable {α:Type} {f:α -> List Value} {sz:Nat}
theorem flat_length (hf:∀x,(f x).length=sz) (xs:List α):(xs.flatMap f).length=xs.length*sz:=by
 induction xs with
 | nil=>simp
 | cons x xs ih=>simp[ih,hf,Nat.add_mul];omega
theorem flat_get (hf:∀x,(f x).length=sz) (xs:List α) (i j:Nat) (hi:i<xs.length) (hj:j<sz):(xs.flatMap f)[i*sz+j]?=(f xs[i])[j]?:=by
 induction xs generalizing i with
 | nil=>simp at hi
 | cons x xs ih =>
  cases i with
  | zero=>simp only[List.flatMap_cons,Nat.zero_mul,Nat.zero_add,List.getElem_cons_zero];rw[List.getElem?_append_left (by rw[hf];exact hj)]
  | succ i =>
   have hi':i<xs.length:=by simpa using hi
   simp only[List.flatMap_cons,List.getElem_cons_succ]
   rw[List.getElem?_append_right (by rw[hf,Nat.add_mul];omega),hf]
   rw[<-ih i hi']
   congr 1
   rw[Nat.add_mul];omega
theorem aaz (hf:∀x,(f x).length=sz) (xs:List α) (i j:Nat) (hi:i<xs.length) (hj:j<sz) (v:Value) (y:α) (hy:f y=(f xs[i]).set j v) :
  (xs.flatMap f).set (i*sz+j) v=(xs.set i y).flatMap f:=by
 induction xs generalizing i with
 | nil=>simp at hi
 | cons x xs ih =>
  cases i with
  | zero =>
   simp only[List.flatMap_cons,Nat.zero_mul,Nat.zero_add,List.set_cons_zero]
   rw[List.set_append_left _ _ (by rw[hf];exact hj)]
   simp at hy;rw[hy]
  | succ i =>
   have hi':i<xs.length:=by simpa using hi
   simp only[List.flatMap_cons,List.set_cons_succ]
   rw[List.set_append_right _ _ (by rw[hf,Nat.add_mul];omega),hf]
   rw[<-ih i hi' (by simpa using hy)]
   congr 2
   rw[Nat.add_mul];omega
end flat
def d_ (d:Nd):List Value:=[.int .i64 d.kind,.int .i64 d.value,.string d.name]
def bM (x:Df×Value):List Value:=[.string x.1.name,.int .i64 x.1.inn,.int .i64 x.1.out,x.2]
def jA (x:En×Value):List Value:=[.int .i64 x.1.kind,.string x.1.name,.string x.1.to,x.2]
theorem rM (d:Nd):(d_ d).length=3:=rfl
theorem mF (x:Df×Value):(bM x).length=4:=rfl
theorem aaA (x:En×Value):(jA x).length=4:=rfl
def au (w:World) (B:Nat) (v:Value) (ns:List Nd):Prop:=w.ownsRow B 87 3 v ns.length (ns.flatMap d_)
theorem yw {w:World} {B e sz:Nat} {v:Value} {n:Nat} {xs:List Value} (h:w.ownsRow B e sz v n xs) (R:Nat->Nat->Nat->Prop)
  (hr:∀i b o,i<n->(∀j,j<sz->w.cell? ⟨b,o+j,none⟩=xs[i*sz+j]?)->R i b o):iT sz v n R:=by
 have h':=h;obtain⟨hl,h2⟩:=h;rcases h2 with⟨rfl,rfl⟩|⟨g,cap,cur,rfl,hb,hh,hc,hm,hs,ht⟩
 ·exact⟨none,0,rfl,Nat.le_refl _,λi hi=>absurd hi (Nat.not_lt_zero _)⟩
 ·refine⟨some ⟨g,0,none⟩,cap,rfl,hc,λi hi=>⟨g,0,rfl,hr i g _ hi λj hj=>?_⟩⟩;rw[Nat.zero_add];refine h'.cellAt _ ?_;have:(i+1)*sz<=n*sz:=Nat.mul_le_mul_right _ hi;rw[Nat.add_mul]at this;omega
theorem au.at {w:World} {B:Nat} {v:Value} {ns:List Nd} (h:au w B v ns):aZ w v ns:=by
 refine yw h _ λi b o hi hc=>⟨hi,?_⟩
 have g:∀j,j<3->w.cell? ⟨b,o+j,none⟩=(d_ ns[i])[j]?:=λj hj=>(hc j hj).trans (flat_get rM ns i j hi hj);exact⟨g 0 (by omega),g 1 (by omega),g 2 (by omega)⟩
def Apart (a b:Value):Prop:=∀k,a.ownBlock=some k->b.ownBlock≠some k
def cu (w:World) (B:Nat) (v:Value) (L:List Df):Prop :=
 ∃xs:List (Df×Value),xs.map Prod.fst=L/\w.ownsRow B 101 4 v xs.length (xs.flatMap bM)/\(∀x∈xs,au w B x.2 x.1.body)/\xs.Pairwise λx y=>Apart x.2 y.2
theorem cu.at {w:World} {B:Nat} {v:Value} {L:List Df} (h:cu w B v L):aG w v L:=by
 obtain⟨xs,rfl,ho,hb,_⟩:=h;have ho':w.ownsRow B 101 4 v (xs.map Prod.fst).length (xs.flatMap bM):=by rw[List.length_map];exact ho
 refine yw ho' _ λi b o hi' hc=>⟨hi',?_⟩
 have hi:i<xs.length:=by simpa using hi' 
 have g:∀j,j<4->w.cell? ⟨b,o+j,none⟩=(bM xs[i])[j]?:=λj hj=>(hc j hj).trans (flat_get mF xs i j hi hj);rw[List.getElem_map];exact⟨g 0 (by omega),g 1 (by omega),g 2 (by omega),xs[i].2,g 3 (by omega),(hb _ (List.getElem_mem _)).at⟩
theorem bW {w w':World} {B e sz:Nat} {v:Value} {n:Nat} {xs:List Value} (hb:Below w.heap.size w w') (h:w.ownsRow B e sz v n xs):w'.ownsRow B e sz v n xs:=by
 refine⟨h.1,?_⟩;rcases h.2 with hn|⟨g,cap,cur,rfl,hbb,hgg,rest⟩
 ·exact .inl hn
 ·exact .inr ⟨g,cap,cur,rfl,hbb,(hb.block g (Array.getElem?_eq_some_iff.1 hgg).1).trans hgg,rest⟩
theorem au.keep {w w':World} {B:Nat} {v:Value} {ns:List Nd} (hb:Below w.heap.size w w') (h:au w B v ns):au w' B v ns:=bW hb h
theorem cu.keep {w w':World} {B:Nat} {v:Value} {L:List Df} (hb:Below w.heap.size w w') (h:cu w B v L):cu w' B v L:=by
 obtain⟨xs,h1,h2,h3,h4⟩:=h;exact⟨xs,h1,bW hb h2,λx hx=>(h3 x hx).keep hb,h4⟩
theorem yx {w:World} {B B' e sz:Nat} {v:Value} {n:Nat} {xs:List Value} (hB:B'<=B) (h:w.ownsRow B e sz v n xs):w.ownsRow B' e sz v n xs:=by
 refine⟨h.1,?_⟩;rcases h.2 with hn|⟨g,cap,cur,rfl,hbb,rest⟩
 ·exact .inl hn
 ·exact .inr ⟨g,cap,cur,rfl,by omega,rest⟩
theorem au.mono {w:World} {B B':Nat} {v:Value} {ns:List Nd} (hB:B'<=B) (h:au w B v ns):au w B' v ns:=yx hB h
theorem cu.mono {w:World} {B B':Nat} {v:Value} {L:List Df} (hB:B'<=B) (h:cu w B v L):cu w B' v L:=by
 obtain⟨xs,h1,h2,h3,h4⟩:=h;exact⟨xs,h1,yx hB h2,λx hx=>(h3 x hx).mono hB,h4⟩
theorem oG {w:World} {B B' e e' sz sz':Nat} {v v':Value} {n n':Nat} {xs xs':List Value} (h:w.ownsRow B e sz v n xs) (h':w.ownsRow B' e' sz' v' n' xs') (he:e≠e'):Apart v v':=by
 intro k hk hk';rcases h.2 with⟨rfl,_⟩|⟨g,cap,cur,rfl,_,hgg,_⟩
 ·simp[Value.ownBlock]at hk
 rcases h'.2 with⟨rfl,_⟩|⟨g',cap',cur',rfl,_,hgg',_⟩
 ·simp[Value.ownBlock]at hk'
 simp[Value.ownBlock]at hk hk';subst hk;subst hk';rw[hgg]at hgg';simp at hgg';exact he hgg'.2
theorem TP {α:Type} {f:α->List Value} {w:World} {B e sz g n cap:Nat} {xs:List α} (hf:∀x,(f x).length=sz)
  (h:w.ownsRow B e sz (.slice (some ⟨g,0,none⟩) n cap) n (xs.flatMap f)) (i j o:Nat) (hi:i<xs.length) (hj:j<sz) (ho:o=i*sz+j) (u:Value) (y:α) (hy:f y=(f xs[i]).set j u) :
  (w.setCell ⟨g,o,none⟩ u).ownsRow B e sz (.slice (some ⟨g,0,none⟩) n cap) n ((xs.set i y).flatMap f):=by
 subst ho;have:=(h.stored (i*sz+j) u).1;rw[aaz hf xs i j hi hj u y hy]at this;exact this
theorem gQ {α:Type} {f:α->List Value} {w:World} {B e sz g n cap:Nat} {xs:List α} (hf:∀x,(f x).length=sz)
  (h:w.ownsRow B e sz (.slice (some ⟨g,0,none⟩) n cap) n (xs.flatMap f)) (i j:Nat) (hi:i<xs.length) (hj:j<sz):w.cell? ⟨g,i*sz+j,none⟩=(f xs[i])[j]?:=by
 have hl:=h.1;rw[flat_length hf]at hl;rw[h.cellAt (i*sz+j) ?_,flat_get hf xs i j hi hj];rw[<-hl];have:(i+1)*sz<=xs.length*sz:=Nat.mul_le_mul_right _ hi;rw[Nat.add_mul]at this;omega
theorem take_set {α:Type} (ns:List α) (z:α) (k:Nat) (hk:k<ns.length) :
  (ns.take k++List.replicate (ns.length-k) z).set k ns[k]=ns.take (k+1)++List.replicate (ns.length-(k+1)) z:=by
 have hl:(ns.take k).length=k:=by rw[List.length_take];omega
 rw[List.set_append_right _ _ (by omega),hl,Nat.sub_self];obtain⟨m,hm⟩:∃m,ns.length-k=m+1:=⟨ns.length-k-1,by omega⟩
 rw[hm,show ns.length-(k+1)=m from by omega,List.replicate_succ,List.set_cons_zero,List.take_succ_eq_append_getElem hk,List.append_assoc];rfl
theorem nG {w:World} {B e sz:Nat} {v:Value} {n:Nat} {xs:List Value} (h:w.ownsRow B e sz v n xs) (a:Addr) (u:Value) (hne:v.ownBlock≠some a.block):(w.setCell a u).ownsRow B e sz v n xs:=by
 refine⟨h.1,?_⟩;rcases h.2 with hn|⟨g,cap,cur,rfl,hbb,hgg,rest⟩
 ·exact .inl hn
 ·refine .inr ⟨g,cap,cur,rfl,hbb,?_,rest⟩;rw[Below.heap_setCell _ _ _ _ (by intro hh;exact hne (by simp[Value.ownBlock,hh]))];exact hgg
theorem yA (w:World) (a:Addr) (u:Value):(w.setCell a u).heap.size=w.heap.size:=by simp[World.setCell]
theorem CS {w:World} {B e g n cap:Nat} {xs:List (Df×Value)} (h:w.ownsRow B e 4 (.slice (some ⟨g,0,none⟩) n cap) n (xs.flatMap bM)) (i:Nat) (hi:i<xs.length) :
  w.cell? ⟨g,i*4,none⟩=some (.string xs[i].1.name)/\w.cell? ⟨g,i*4+1,none⟩=some (.int .i64 xs[i].1.inn)/\w.cell? ⟨g,i*4+2,none⟩=some (.int .i64 xs[i].1.out)/\w.cell? ⟨g,i*4+3,none⟩=some xs[i].2 /\
   w.frozen? ⟨g,i*4,none⟩=false/\w.frozen? ⟨g,i*4+1,none⟩=false/\w.frozen? ⟨g,i*4+2,none⟩=false/\w.frozen? ⟨g,i*4+3,none⟩=false :=
 ⟨gQ mF h i 0 hi (by omega),gQ mF h i 1 hi (by omega),gQ mF h i 2 hi (by omega),gQ mF h i 3 hi (by omega),h.frozenAt _,h.frozenAt _,h.frozenAt _,h.frozenAt _⟩
theorem aaB {w:World} {B e sz:Nat} {v:Value} {n:Nat} {xs:List Value} (h:w.ownsRow B e sz v n xs) {w':World} {B' e' sz':Nat} {v':Value} {n':Nat} {xs':List Value} (h':w'.ownsRow B' e' sz' v' n' xs') (hB:w.heap.size<=B'):Apart v v':=by
 intro k hk hk';have:=h.lt k hk;have:=h'.lt k hk';omega
theorem au.slice {w:World} {B:Nat} {v:Value} {ns:List Nd} (h:au w B v ns):∃a cap,v=.slice a ns.length cap:=h.at.slice
def wP (k:Nat):UInt8:=UInt8.ofNat (48+k % 10)
end Go.Proofs.YtikgblkfmpecfaaGreatDoor
