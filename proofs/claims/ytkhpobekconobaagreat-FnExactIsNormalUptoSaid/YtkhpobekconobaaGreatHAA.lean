import Derived.WalkKit
import Derived.Test.YtkhpobekconobaaGreatProg
import Derived.WalkLawsBesides
import Derived.WalkSpells
import Derived.StillTailTactics
import Derived.WideShapes
import Derived.Deep.QuietTactic
import Derived.BigQuiet
import Derived.Deep.RegionWith
import Derived.Test.YtkhpobekconobaaGreatHZZ
set_option linter.all false
set_option maxRecDepth 100000
set_option maxHeartbeats 0
namespace Go.Proofs.YtkhpobekconobaaGreat
open Go.RowKit
structure Nd where
 kind:Int
 value:Int
 name:ByteArray
 deriving DecidableEq
structure Df where
 name:ByteArray
 inn:Int
 out:Int
 body:List Nd
 deriving DecidableEq
structure En where
 kind:Int
 name:ByteArray
 to:ByteArray
 body:List Nd
 deriving DecidableEq
def nD (sz:Nat) (v:Value) (n:Nat) (R:Nat->Nat->Nat->Prop):Prop :=
 ∃a cap,v=.slice a n cap/\n<=cap/\∀i,i<n->∃b o,a=some ⟨b,o,none⟩/\R i b (o+i*sz)
def aac (w:World) (d:Nd) (b o:Nat):Prop :=
 w.cell? ⟨b,o,none⟩=some (.int .i64 d.kind)/\w.cell? ⟨b,o+1,none⟩=some (.int .i64 d.value)/\w.cell? ⟨b,o+2,none⟩=some (.string d.name)
def dG (w:World) (v:Value) (ns:List Nd):Prop:=nD 3 v ns.length λi b o=>∃h:i<ns.length,aac w ns[i] b o
def abE (w:World) (d:Df) (b o:Nat):Prop :=
 w.cell? ⟨b,o,none⟩=some (.string d.name)/\w.cell? ⟨b,o+1,none⟩=some (.int .i64 d.inn)/\w.cell? ⟨b,o+2,none⟩=some (.int .i64 d.out) /\
  ∃v,w.cell? ⟨b,o+3,none⟩=some v/\dG w v d.body
def OV (w:World) (v:Value) (L:List Df):Prop:=nD 4 v L.length λi b o=>∃h:i<L.length,abE w L[i] b o
def am3 (w:World) (e:En) (b o:Nat):Prop :=
 w.cell? ⟨b,o,none⟩=some (.int .i64 e.kind)/\w.cell? ⟨b,o+1,none⟩=some (.string e.name)/\w.cell? ⟨b,o+2,none⟩=some (.string e.to) /\
  ∃v,w.cell? ⟨b,o+3,none⟩=some v/\dG w v e.body
def avr (w:World) (v:Value) (L:List En):Prop:=nD 4 v L.length λi b o=>∃h:i<L.length,am3 w L[i] b o
theorem cell_lt {w:World} {b o:Nat} {v:Value} (h:w.cell? ⟨b,o,none⟩=some v):b<w.heap.size:=by
 have:=World.block_lt_of_cell? w ⟨b,o,none⟩ h;exact this
theorem aK {w w':World} (hb:Below w.heap.size w w') {b o:Nat} {v:Value} (h:w.cell? ⟨b,o,none⟩=some v):w'.cell? ⟨b,o,none⟩=some v :=
 (hb.cell (p:=⟨b,o,none⟩) (cell_lt h)).trans h
theorem nD.mono {sz:Nat} {v:Value} {n:Nat} {R R':Nat->Nat->Nat->Prop} (h:nD sz v n R) (hr:∀i b o,R i b o->R' i b o):nD sz v n R':=by
 obtain⟨a,cap,rfl,hc,h⟩:=h;exact⟨a,cap,rfl,hc,λi hi=>let⟨b,o,e,r⟩:=h i hi;⟨b,o,e,hr _ _ _ r⟩⟩
theorem aac.keep {w w':World} (hb:Below w.heap.size w w') {d:Nd} {b o:Nat} (h:aac w d b o):aac w' d b o :=
 ⟨aK hb h.1,aK hb h.2.1,aK hb h.2.2⟩
theorem dG.keep {w w':World} (hb:Below w.heap.size w w') {v:Value} {ns:List Nd} (h:dG w v ns):dG w' v ns :=
 nD.mono h λ_ _ _ ⟨hi,r⟩=>⟨hi,r.keep hb⟩
theorem abE.keep {w w':World} (hb:Below w.heap.size w w') {d:Df} {b o:Nat} (h:abE w d b o):abE w' d b o:=by
 obtain⟨h1,h2,h3,v,h4,h5⟩:=h;exact⟨aK hb h1,aK hb h2,aK hb h3,v,aK hb h4,h5.keep hb⟩
theorem OV.keep {w w':World} (hb:Below w.heap.size w w') {v:Value} {L:List Df} (h:OV w v L):OV w' v L :=
 nD.mono h λ_ _ _ ⟨hi,r⟩=>⟨hi,r.keep hb⟩
theorem dG.slice {w:World} {v:Value} {ns:List Nd} (h:dG w v ns):∃a cap,v=.slice a ns.length cap:=by
 obtain⟨a,cap,rfl,_⟩:=h;exact⟨a,cap,rfl⟩
theorem abG {k:IntKind} {a b:Int} (h:a=b):Ending.returned (.int k a)=.returned (.int k b):=by rw[h]
theorem pY {a b:Bool} (h:a=b):Ending.returned (.bool a)=.returned (.bool b):=by rw[h]
theorem n_ {W w1:World} (hb:Below W.heap.size W w1):(∀b o,b<W.heap.size->w1.cell? ⟨b,o,none⟩=W.cell? ⟨b,o,none⟩)/\(∀b o,b<W.heap.size->w1.frozen? ⟨b,o,none⟩=W.frozen? ⟨b,o,none⟩)/\W.heap.size<=w1.heap.size :=
 ⟨λb o h=>hb.cell (p:=⟨b,o,none⟩) h,λb o h=>hb.frozen (p:=⟨b,o,none⟩) h,hb.size⟩
theorem agO {w:World} {b o:Nat} {v:Value} (h:w.cell? ⟨b,o,none⟩=some v) (ob:Obj):(w.alloc ob).cell? ⟨b,o,none⟩=some v :=
 aK ((Zl _ _).alloc (Zj _) _) h
section flat
variable {α:Type} {f:α -> List Value} {sz:Nat}
theorem flat_length (hf:∀x,(f x).length=sz) (xs:List α):(xs.flatMap f).length=xs.length*sz:=by
 induction xs with
 | nil=>simp
 | cons x xs ih=>simp[ih,hf,Xs];omega
theorem flat_get (hf:∀x,(f x).length=sz) (xs:List α) (i j:Nat) (hi:i<xs.length) (hj:j<sz):(xs.flatMap f)[i*sz+j]?=(f xs[i])[j]?:=by
 induction xs generalizing i with
 | nil=>simp at hi
 | cons x xs ih =>
  cases i with
  | zero=>simp only[Yt,WL,Yp,WP];rw[Yz (by rw[hf];exact hj)]
  | succ i =>
   have jy:i<xs.length:=by simpa using hi
   simp only[Yt,List.getElem_cons_succ];rw[Xd (by rw[hf,Xs];omega),hf];rw[<-ih i jy];congr 1;rw[Xs];omega
theorem am4 (hf:∀x,(f x).length=sz) (xs:List α) (i j:Nat) (hi:i<xs.length) (hj:j<sz) (v:Value) (y:α) (hy:f y=(f xs[i]).set j v) :
  (xs.flatMap f).set (i*sz+j) v=(xs.set i y).flatMap f:=by
 induction xs generalizing i with
 | nil=>simp at hi
 | cons x xs ih =>
  cases i with
  | zero =>
   simp only[Yt,WL,Yp,XZ];rw[List.set_append_left _ _ (by rw[hf];exact hj)];simp at hy;rw[hy]
  | succ i =>
   have jy:i<xs.length:=by simpa using hi
   simp only[Yt,List.set_cons_succ];rw[Yw _ _ (by rw[hf,Xs];omega),hf];rw[<-ih i jy (by simpa using hy)];congr 2;rw[Xs];omega
theorem vZ (z:α) (n:Nat) (hs:0<sz) (hz:(f z).length=sz):(madeCells (f z).toArray (n*sz)).toList=(List.replicate n z).flatMap f:=by
 apply List.ext_getElem?;intro j;have hl:((List.replicate n z).flatMap f).length=n*sz:=by
  induction n with
  | zero=>simp
  | succ n ih=>rw[XU,Yt,Zk,ih,hz,Xs];omega
 by_cases hj:j<n*sz
 ·have hd:j=(j / sz)*sz+j % sz:=by rw[VB];exact(Nat.div_add_mod j sz).symm
  have hq:j / sz<n:=Nat.div_lt_of_lt_mul (by rw[VB];exact hj);have hr:j % sz<sz:=Nat.mod_lt _ hs;have key:∀(n q r:Nat),q<n->r<sz->((List.replicate n z).flatMap f)[q*sz+r]?=(f z)[r]?:=by
   intro n;induction n with
   | zero=>intro q r h;omega
   | succ n ih =>
    intro q r h hr;rw[XU,Yt];cases q with
    | zero=>rw[WL,Yp,Yz (by rw[hz];exact hr)]
    | succ q =>
     rw[Xd (by rw[hz,Xs];omega),hz,<-ih q r (by omega) hr];congr 1;rw[Xs];omega
  have h2:=key n (j / sz) (j % sz) hq hr;rw[<-hd]at h2;have e2:(f z)[j % sz]?=some ((f z)[j % sz]'(by rw[hz];exact hr)):=Zi _;rw[h2,e2];simp[madeCells,hj,hz,e2]
 ·have hm:(madeCells (f z).toArray (n*sz)).toList.length=n*sz:=by simp[madeCells]
  rw[WY (by omega),WY (by omega)]
end flat
def BJ (d:Nd):List Value:=[.int .i64 d.kind,.int .i64 d.value,.string d.name]
def adI (x:Df×Value):List Value:=[.string x.1.name,.int .i64 x.1.inn,.int .i64 x.1.out,x.2]
theorem Md (d:Nd):(BJ d).length=3:=rfl
def jA (w:World) (B:Nat) (v:Value) (ns:List Nd):Prop:=w.ownsRow B 116 3 v ns.length (ns.flatMap BJ)
theorem Me {w:World} {B e sz:Nat} {v:Value} {n:Nat} {xs:List Value} (h:w.ownsRow B e sz v n xs) (R:Nat->Nat->Nat->Prop)
  (hr:∀i b o,i<n->(∀j,j<sz->w.cell? ⟨b,o+j,none⟩=xs[i*sz+j]?)->R i b o):nD sz v n R:=by
 have h':=h;obtain⟨hl,h2⟩:=h;rcases h2 with⟨rfl,rfl⟩|⟨g,cap,cur,rfl,hb,hh,hc,hm,hs,ht⟩
 ·exact⟨none,0,rfl,Zj _,λi hi=>absurd hi (VL _)⟩
 ·refine⟨some ⟨g,0,none⟩,cap,rfl,hc,λi hi=>⟨g,0,rfl,hr i g _ hi λj hj=>?_⟩⟩;rw[Yp];refine h'.cellAt _ ?_;have:(i+1)*sz<=n*sz:=XN _ hi;rw[Xs]at this;omega
theorem jA.at {w:World} {B:Nat} {v:Value} {ns:List Nd} (h:jA w B v ns):dG w v ns:=by
 refine Me h _ λi b o hi hc=>⟨hi,?_⟩
 have g:∀j,j<3->w.cell? ⟨b,o+j,none⟩=(BJ ns[i])[j]?:=λj hj=>(hc j hj).trans (flat_get Md ns i j hi hj);exact⟨g 0 (by omega),g 1 (by omega),g 2 (by omega)⟩
def Apart (a b:Value):Prop:=∀k,a.ownBlock=some k->b.ownBlock≠some k
def avs (w:World) (B:Nat) (v:Value) (L:List Df):Prop :=
 ∃xs:List (Df×Value),xs.map Prod.fst=L/\w.ownsRow B 225 4 v xs.length (xs.flatMap adI)/\(∀x∈xs,jA w B x.2 x.1.body)/\xs.Pairwise λx y=>Apart x.2 y.2
theorem jL {w w':World} {B e sz:Nat} {v:Value} {n:Nat} {xs:List Value} (hb:Below w.heap.size w w') (h:w.ownsRow B e sz v n xs):w'.ownsRow B e sz v n xs:=by
 refine⟨h.1,?_⟩;rcases h.2 with hn|⟨g,cap,cur,rfl,wu,jF,rest⟩
 ·exact .inl hn
 ·exact .inr ⟨g,cap,cur,rfl,wu,(hb.block g (ZP.1 jF).1).trans jF,rest⟩
theorem jA.keep {w w':World} {B:Nat} {v:Value} {ns:List Nd} (hb:Below w.heap.size w w') (h:jA w B v ns):jA w' B v ns:=jL hb h
theorem FD {w:World} {B B' e sz:Nat} {v:Value} {n:Nat} {xs:List Value} (hB:B'<=B) (h:w.ownsRow B e sz v n xs):w.ownsRow B' e sz v n xs:=by
 refine⟨h.1,?_⟩;rcases h.2 with hn|⟨g,cap,cur,rfl,wu,rest⟩
 ·exact .inl hn
 ·exact .inr ⟨g,cap,cur,rfl,by omega,rest⟩
theorem jA.mono {w:World} {B B':Nat} {v:Value} {ns:List Nd} (hB:B'<=B) (h:jA w B v ns):jA w B' v ns:=FD hB h
theorem wC {w:World} {B B' e e' sz sz':Nat} {v v':Value} {n n':Nat} {xs xs':List Value} (h:w.ownsRow B e sz v n xs) (h':w.ownsRow B' e' sz' v' n' xs') (he:e≠e'):Apart v v':=by
 intro k hk eH;rcases h.2 with⟨rfl,_⟩|⟨g,cap,cur,rfl,_,jF,_⟩
 ·simp[Value.ownBlock]at hk
 rcases h'.2 with⟨rfl,_⟩|⟨g',cap',cur',rfl,_,adJ,_⟩
 ·simp[Value.ownBlock]at eH
 simp[Value.ownBlock]at hk eH;subst hk;subst eH;rw[jF]at adJ;simp at adJ;exact he adJ.2
theorem Ap {α:Type} {f:α->List Value} {w:World} {B e sz g n cap:Nat} {xs:List α} (hf:∀x,(f x).length=sz)
  (h:w.ownsRow B e sz (.slice (some ⟨g,0,none⟩) n cap) n (xs.flatMap f)) (i j o:Nat) (hi:i<xs.length) (hj:j<sz) (ho:o=i*sz+j) (u:Value) (y:α) (hy:f y=(f xs[i]).set j u) :
  (w.setCell ⟨g,o,none⟩ u).ownsRow B e sz (.slice (some ⟨g,0,none⟩) n cap) n ((xs.set i y).flatMap f):=by
 subst ho;have:=(h.stored (i*sz+j) u).1;rw[am4 hf xs i j hi hj u y hy]at this;exact this
theorem am5 {w:World} {B e g n cap:Nat} {xs:List Nd} (h:w.ownsRow B e 3 (.slice (some ⟨g,0,none⟩) n cap) n (xs.flatMap BJ)) (i:Nat) (hi:i<xs.length) (d:Nd) :
  (((w.setCell ⟨g,i*3,none⟩ (.int .i64 d.kind)).setCell ⟨g,i*3+1,none⟩ (.int .i64 d.value)).setCell ⟨g,i*3+2,none⟩ (.string d.name)).ownsRow B e 3 (.slice (some ⟨g,0,none⟩) n cap) n ((xs.set i d).flatMap BJ):=by
 have h1:=Ap Md h i 0 _ hi (by omega) rfl (.int .i64 d.kind) ⟨d.kind,xs[i].value,xs[i].name⟩ rfl;have h2:=Ap Md h1 i 1 _ (by simpa using hi) (by omega) rfl (.int .i64 d.value) ⟨d.kind,d.value,xs[i].name⟩ (by simp[BJ]);have h3:=Ap Md h2 i 2 _ (by simpa using hi) (by omega) rfl (.string d.name) d (by simp[BJ]);simpa using h3
theorem mV {α:Type} {f:α->List Value} {w:World} {B e sz g n cap:Nat} {xs:List α} (hf:∀x,(f x).length=sz)
  (h:w.ownsRow B e sz (.slice (some ⟨g,0,none⟩) n cap) n (xs.flatMap f)) (i j:Nat) (hi:i<xs.length) (hj:j<sz):w.cell? ⟨g,i*sz+j,none⟩=(f xs[i])[j]?:=by
 have hl:=h.1;rw[flat_length hf]at hl;rw[h.cellAt (i*sz+j) ?_,flat_get hf xs i j hi hj];rw[<-hl];have:(i+1)*sz<=xs.length*sz:=XN _ hi;rw[Xs]at this;omega
theorem take_set {α:Type} (ns:List α) (z:α) (k:Nat) (hk:k<ns.length) :
  (ns.take k++List.replicate (ns.length-k) z).set k ns[k]=ns.take (k+1)++List.replicate (ns.length-(k+1)) z:=by
 have hl:(ns.take k).length=k:=by rw[ZJ];omega
 rw[Yw _ _ (by omega),hl,XO];obtain⟨m,hm⟩:∃m,ns.length-k=m+1:=⟨ns.length-k-1,by omega⟩
 rw[hm,show ns.length-(k+1)=m from by omega,XU,XZ,Zv hk,Zz];rfl
theorem am6 {w:World} {B e g n cap:Nat} {xs:List Nd} (h:w.ownsRow B e 3 (.slice (some ⟨g,0,none⟩) n cap) n (xs.flatMap BJ)) (i:Nat) (hi:i<xs.length) :
  ∃(x y:Int) (z:ByteArray),w.cell? ⟨g,i*3,none⟩=some (.int .i64 x)/\w.cell? ⟨g,i*3+1,none⟩=some (.int .i64 y)/\w.cell? ⟨g,i*3+2,none⟩=some (.string z) /\
   w.frozen? ⟨g,i*3,none⟩=false/\w.frozen? ⟨g,i*3+1,none⟩=false/\w.frozen? ⟨g,i*3+2,none⟩=false :=
 ⟨_,_,_,mV Md h i 0 hi (by omega),mV Md h i 1 hi (by omega),mV Md h i 2 hi (by omega),h.frozenAt _,h.frozenAt _,h.frozenAt _⟩
theorem eP {w:World} {B e sz:Nat} {v:Value} {n:Nat} {xs:List Value} (h:w.ownsRow B e sz v n xs) (a:Addr) (u:Value) (hne:v.ownBlock≠some a.block):(w.setCell a u).ownsRow B e sz v n xs:=by
 refine⟨h.1,?_⟩;rcases h.2 with hn|⟨g,cap,cur,rfl,wu,jF,rest⟩
 ·exact .inl hn
 ·refine .inr ⟨g,cap,cur,rfl,wu,?_,rest⟩;rw[Zm _ _ _ _ (by intro hh;exact hne (by simp[Value.ownBlock,hh]))];exact jF
theorem MF (w:World) (a:Addr) (u:Value):(w.setCell a u).heap.size=w.heap.size:=by simp[World.setCell]
theorem am7 {α:Type} {f:α->List Value} {w:World} {B e g n cap:Nat} {xs:List α} (hf:∀x,(f x).length=4)
  (h:w.ownsRow B e 4 (.slice (some ⟨g,0,none⟩) n cap) n (xs.flatMap f)) (i:Nat) (hi:i<xs.length) (a b c d:Value) (y:α) (hy:f y=[a,b,c,d]) :
  ((((w.setCell ⟨g,i*4,none⟩ a).setCell ⟨g,i*4+1,none⟩ b).setCell ⟨g,i*4+2,none⟩ c).setCell ⟨g,i*4+3,none⟩ d).ownsRow B e 4 (.slice (some ⟨g,0,none⟩) n cap) n ((xs.set i y).flatMap f):=by
 have aad:∀(l:List α) (j:Nat) (hj:j<l.length),l.flatMap f=(l.take j).flatMap f++f l[j]++(l.drop (j+1)).flatMap f:=by
  intro l j hj;conv=>lhs;rw[<-Yr j l]
  rw[ZL,Zz,ZN hj,Yt]
 have hl:((xs.take i).flatMap f).length=i*4:=by rw[flat_length hf,ZJ];congr 1;omega
 have cZ:((((xs.flatMap f).set (i*4) a).set (i*4+1) b).set (i*4+2) c).set (i*4+3) d=(xs.set i y).flatMap f:=by
  rw[aad xs i hi,aad (xs.set i y) i (by simpa using hi)];have hx:=hf xs[i];simp only[XT (Zj i),Wb,hy,Vo (Xi i)];match hxx:f xs[i],hx with
  | [p,q,r,s],_ =>
   rw[Zz];rw[Yw _ _ (by omega),hl,XO];rw[Yw _ _ (by omega),hl,YF];rw[Yw _ _ (by omega),hl,YF];rw[Yw _ _ (by omega),hl,YF];simp
 have h1:=(h.stored (i*4) a).1;have h2:=(h1.stored (i*4+1) b).1;have h3:=(h2.stored (i*4+2) c).1;have h4:=(h3.stored (i*4+3) d).1;rw[cZ]at h4;exact h4
theorem jA.slice {w:World} {B:Nat} {v:Value} {ns:List Nd} (h:jA w B v ns):∃a cap,v=.slice a ns.length cap:=h.at.slice
abbrev W2:=Int×Int
def fJ (k:Int):W2 :=
 if k=2 then(2,2)else if k=3\/k=11 then(1,2)else if k=4\/k=12 then(1,0)else if k=5\/k=9 then(2,1)else if k=6\/k=10 then(0,1)else(1,1)
def jB (n:Nd):Bool :=
 decide (n.name=ByteArray.empty)&&decide (1<=n.kind)&&decide (n.kind<=14) &&
  (if n.kind=1 then decide (0<=n.value)&&decide (n.value<=12)else if n.kind=7\/n.kind=13 then decide (0<=n.value)&&decide (n.value<=96)else decide (n.value=0))
def wF (n:Nd):W2:=if n.kind=1 then(n.value,n.value)else fJ n.kind
def wG (name:ByteArray):List Df->Nat->Int
 | [],_=>-1
 | d::r,k=>if d.name=name then k else wG name r (k+1)
def findD (L:List Df) (name:ByteArray):Option Df:=L.find? λd=>decide (d.name=name)
def bI (L:List Df) (n:Nd):Option W2 :=
 if n.kind=17 then(if n.value=0 then(findD L n.name).map λd=>(d.inn,d.out)else none)
 else if jB n then some (wF n)else none
def og (k:Int) (a b:W2):Option W2 :=
 if k=15 then(if a.2=b.1 then some (a.1,b.2)else none)
 else if a.1+b.1<=12/\a.2+b.2<=12 then some (a.1+b.1,a.2+b.2)else none
def eX (leaf:Nd->Option W2):List Nd->List W2->Option (List W2)
 | [],st=>some st
 | n::r,st =>
  if n.kind=15\/n.kind=16 then
   (if n.value=0/\n.name=ByteArray.empty then
    (match st with
    | b::a::st'=>(match og n.kind a b with
     | some w=>eX leaf r (w::st')
     | none=>none)
    | _=>none)
   else none)
  else(match leaf n with
   | some w=>eX leaf r (w::st)
   | none=>none)
def bP (leaf:Nd->Option W2) (ns:List Nd):Option W2 :=
 if 1<=ns.length/\ns.length<=400 then
  (match eX leaf ns []with
  | some [w]=>some w
  | _=>none)
 else none
section
variable {leaf:Nd -> Option W2} {n:Nd} {r:List Nd} {st:List W2}
theorem abH (hk:¬(n.kind=15\/n.kind=16)) (h:leaf n=none):eX leaf (n::r) st=none:=by
 unfold eX;rw[ZH hk,h]
theorem abI {x:W2} (hk:¬(n.kind=15\/n.kind=16)) (h:leaf n=some x):eX leaf (n::r) st=eX leaf r (x::st):=by
 conv=>lhs;unfold eX
 rw[ZH hk,h]
theorem agP (hk:n.kind=15\/n.kind=16) (h:¬(n.value=0/\n.name=ByteArray.empty)):eX leaf (n::r) st=none:=by
 unfold eX;rw[ZE hk,ZH h]
theorem agQ (hk:n.kind=15\/n.kind=16) (h:st.length<2):eX leaf (n::r) st=none:=by
 unfold eX;rw[ZE hk];match st,h with
 | [],_=>split<;>rfl
 | [a],_=>split<;>rfl
theorem agR {a b:W2} (hk:n.kind=15\/n.kind=16) (h:og n.kind a b=none):eX leaf (n::r) (b::a::st)=none:=by
 unfold eX;rw[ZE hk];simp only[h];split<;>rfl
theorem agS {a b x:W2} (hk:n.kind=15\/n.kind=16) (hv:n.value=0) (hm:n.name=ByteArray.empty) (h:og n.kind a b=some x):eX leaf (n::r) (b::a::st)=eX leaf r (x::st):=by
 conv=>lhs;unfold eX
 rw[ZE hk,ZE ⟨hv,hm⟩];simp only[h]
end
theorem JE (a b:ByteArray):(a.toList==b.toList)=decide (a=b):=by
 rw[Ws,Ws,YK];simp only[XY,ZF];exact⟨λh=>WideShapes.bytes_inj h,λh=>by rw[h]⟩
theorem am8 {a b:ByteArray} (h:(!a.toList==b.toList)=true):a≠b:=by rw[JE]at h;simpa using h
theorem am9 {a b:ByteArray} (h:(!a.toList==b.toList)=false):a=b:=by rw[JE]at h;simpa using h
theorem agT {a b:Int} (h:(a != b)=true):a≠b:=by simpa using h
theorem agU {a b:Int} (h:(a != b)=false):a=b:=by simpa using h
theorem MG {p:Prop} [Decidable p] (h:¬p):Ending.returned (.bool false)=.returned (.bool (decide p)):=by simp[h]
theorem abJ {p:Prop} [Decidable p] (h:p):Ending.returned (.bool true)=.returned (.bool (decide p)):=by simp[h]
theorem agV (a b:Nd) (w:World) :
  Calls Tryz.prog 139 #[.agg #[.int .i64 a.kind,.int .i64 a.value,.string a.name],.agg #[.int .i64 b.kind,.int .i64 b.value,.string b.name]] w λe w'=>e=.returned (.bool (decide (a=b)))/\Below w.heap.size w w':=by
 go_enter Tryz.func139,Tryz.ntmps139;go_wp2;all_goals
  go_ret;refine⟨?_,by repeat(first|exact Zl _ _|refine Xh ?_ (by simp<;>omega) _)⟩
 ·exact MG λh=>agT ‹_› (by rw[h])
 ·exact MG λh=>agT ‹_› (by rw[h])
 ·exact MG λh=>am8 ‹_› (by rw[h])
 ·have h1:a.kind=b.kind:=agU ‹_›;have h2:a.value=b.value:=agU ‹_›;have h3:a.name=b.name:=am9 ‹_›;exact abJ (by cases a;cases b;simp_all)
def yH {α:Type} (a b:List α) (k:Nat):Prop:=a=b↔a.drop k=b.drop k
theorem yH.zero {α:Type} (a b:List α):yH a b 0:=by simp[yH]
theorem yH.step {α:Type} {a b:List α} {k:Nat} (h:yH a b k) (ha:k<a.length) (hb:k<b.length) (he:a[k]=b[k]):yH a b (k+1):=by
 unfold yH at *;rw[h,ZN ha,ZN hb,he];simp only[WT,Wh]
theorem yH.no {α:Type} {a b:List α} {k:Nat} (h:yH a b k) (ha:k<a.length) (hb:k<b.length) (he:a[k]≠b[k]):a≠b:=by
 unfold yH at h;rw[ne_eq,h,ZN ha,ZN hb];simp only[WT,he,false_and,not_false_eq_true]
theorem yH.done {α:Type} {a b:List α} {k:Nat} (h:yH a b k) (ha:a.length<=k) (hb:b.length<=k):a=b:=by
 unfold yH at h;rw[h,XE ha,XE hb]
theorem agW (v v':Value) (a b:List Nd) (w:World) (hv:dG w v a) (hv':dG w v' b) (hn:a.length<=1048576) (JF:b.length<=1048576) :
  Calls Tryz.prog 97 #[v,v'] w λe w'=>e=.returned (.bool (decide (a=b)))/\Below w.heap.size w w':=by
 obtain⟨p,cap,rfl,hc,hat⟩:=hv;obtain⟨p',cap',rfl,hc',hat'⟩:=hv';by_cases hl:a.length=b.length
 ·have iH:((a.length:Int) != b.length)=false:=by simp[hl]
  go_enter Tryz.func97,Tryz.ntmps97;have HL:=Za hl;clear hl;go_wp2;go_loopw [5] (λi wr=>∃k:Nat,k<=a.length/\i=.int .i64 k/\yH a b k/\Below w.heap.size w wr) (λi _=>a.length-(intOf i).toNat)
  case atStart=>exact⟨0,Zw _,rfl,yH.zero _ _,Zl _ _⟩
  case round =>
   obtain⟨k,hk,rfl,ht,aI⟩:=hrel;by_cases hlt:k<a.length
   ·have OW:k<b.length:=by have:=HL.out;omega
    obtain⟨g,o,rfl,_,dI⟩:=hat k hlt;obtain⟨g',o',rfl,_,Il⟩:=hat' k OW;obtain⟨c0,c1,c2⟩:=dI.keep aI;obtain⟨d0,d1,d2⟩:=Il.keep aI;clear hat dI hat' Il;by_cases he:a[k]=b[k]
    ·have RP:decide (a[k]=b[k])=true:=by simp[he]
     have HE:=Za he;clear he;go_wp2_with fail
     go_still_tail 8,(by kernel_rfl)
     go_wp2_with (go_at_call 139;refine(agV a[k] b[k] _).mono ?_;rintro e w2⟨rfl,hb2⟩)
     have hs:=aI.drew.size;go_roundw
     case rel=>exact⟨k+1,by omega,by go_num,ht.step hlt OW HE.out,aI.drew.trans (hb2.mono (by omega))⟩
     case measure=>simp[intOf];omega
    ·have RP:decide (a[k]=b[k])=false:=by simp[he]
     go_wp2_with fail
     go_still_tail 8,(by kernel_rfl)
     go_wp2_with (go_at_call 139;refine(agV a[k] b[k] _).mono ?_;rintro e w2⟨rfl,hb2⟩)
     have hs:=aI.drew.size;go_ret;exact⟨MG (ht.no hlt OW he),aI.drew.trans (hb2.mono (by omega))⟩
   ·go_wp2;go_ret;exact⟨abJ (ht.done (by omega) (by have:=HL.out;omega)),aI⟩
 ·have iH:((a.length:Int) != b.length)=true:=by simp;omega
  go_enter Tryz.func97,Tryz.ntmps97;go_wp2;go_ret;exact⟨MG λh=>hl (by rw[h]),Zl _ _⟩
theorem aae (v v':Value) (a b:List Nd) (w:World) (hv:dG w v a) (hv':dG w v' b) (hn:a.length<=1048576) (JF:b.length<=1048576) :
  Calls Tryz.prog 66 #[.agg #[v],.agg #[v']] w λe w'=>e=.returned (.bool (decide (a=b)))/\Below w.heap.size w w':=by
 obtain⟨p,cap,rfl⟩:=hv.slice;obtain⟨p',cap',rfl⟩:=hv'.slice;have hB:∀o o',Below w.heap.size w ((w.alloc o).alloc o'):=λo o'=>((Zl _ _).alloc (Zj _) _).alloc (by simp) _;by_cases h:a=b
 ·have h1:decide (a=b)=true:=by simp[h]
  have H:=Za h;clear h;go_enter Tryz.func66,Tryz.ntmps66;go_wp2_with (go_at_call 97;refine(agW _ _ a b _ (hv.keep (hB _ _)) (hv'.keep (hB _ _)) hn JF).mono ?_;rintro e w2⟨rfl,hb2⟩)
  go_ret;exact⟨abJ H.out,(hB _ _).trans (hb2.mono (by simp;omega))⟩
 ·have h1:decide (a=b)=false:=by simp[h]
  go_enter Tryz.func66,Tryz.ntmps66;go_wp2_with (go_at_call 97;refine(agW _ _ a b _ (hv.keep (hB _ _)) (hv'.keep (hB _ _)) hn JF).mono ?_;rintro e w2⟨rfl,hb2⟩)
  go_ret;exact⟨MG h,(hB _ _).trans (hb2.mono (by simp;omega))⟩
def inB (n lo hi:Int):Bool:=decide (lo<=n)&&decide (n<=hi)
theorem rG (n lo hi:Int) (w:World) :
  Calls Tryz.prog 70 #[.int .i64 n,.int .i64 lo,.int .i64 hi] w λe w'=>e=.returned (.bool (inB n lo hi))/\w=w':=by
 go_enter Tryz.func70,Tryz.ntmps70;go_wp2;all_goals go_ret
 all_goals exact⟨pY (by simp[inB];try omega),rfl⟩
theorem sD (n lo hi:Int) (w:World) :
  Calls Tryz.prog 46 #[.int .i64 n,.int .i64 lo,.int .i64 hi] w λe w'=>e=.returned (.bool (inB n lo hi))/\w=w':=by
 go_enter Tryz.func46,Tryz.ntmps46;go_wp2;all_goals go_ret
 all_goals exact⟨pY (by simp[inB];try omega),rfl⟩
def wH (b:UInt8):Bool:=decide ((97:Int)<=(b.toNat:Int))&&decide ((b.toNat:Int)<=122)
def FH (b:UInt8):Bool:=decide ((48:Int)<=(b.toNat:Int))&&decide ((b.toNat:Int)<=57)
theorem abK (b:UInt8) (w:World) :
  Calls Tryz.prog 156 #[.int .u8 b.toNat] w λe w'=>e=.returned (.bool (wH b))/\w=w':=by
 go_enter Tryz.func156,Tryz.ntmps156;go_wp2;all_goals go_ret
 all_goals exact⟨pY (by first|(simp_all [wH];done)|(simp_all [wH];omega)),rfl⟩
theorem ana (b:UInt8) (w:World) :
  Calls Tryz.prog 158 #[.int .u8 b.toNat] w λe w'=>e=.returned (.bool (FH b))/\w=w':=by
 go_enter Tryz.func158,Tryz.ntmps158;go_wp2;all_goals go_ret
 all_goals exact⟨pY (by first|(simp_all [FH];done)|(simp_all [FH];omega)),rfl⟩
def MH (k:Int):Bool:=(k==7) ||(k==13)
theorem anb (k:Int) (w:World) :
  Calls Tryz.prog 172 #[.int .i64 k] w λe w'=>e=.returned (.bool (MH k))/\w=w':=by
 go_enter Tryz.func172,Tryz.ntmps172;go_wp2;all_goals go_ret
 all_goals exact⟨pY (by simp_all [MH]),rfl⟩
theorem aaf (k:Int) (w:World) :
  Calls Tryz.prog 151 #[.int .i64 k] w λe w'=>e=.returned (.bool (inB k 3 14))/\w=w':=by
 go_enter Tryz.func151,Tryz.ntmps151;go_wp2_with (go_at_call 70;refine(rG _ _ _ _).mono ?_;rintro e w2⟨rfl,rfl⟩)
 go_ret;exact⟨rfl,rfl⟩
def BK (k v:Int):Bool:=if MH k then inB v 0 96 else(v==0)
theorem adK (k v:Int) (w:World) :
  Calls Tryz.prog 152 #[.int .i64 k,.int .i64 v] w λe w'=>e=.returned (.bool (BK k v))/\w=w':=by
 cases hk:MH k;all_goals
  go_enter Tryz.func152,Tryz.ntmps152;go_wp2_with (first|(go_at_call 172;refine(anb _ _).mono ?_;rintro e w2⟨rfl,rfl⟩)|(go_at_call 70;refine(rG _ _ _ _).mono ?_;rintro e w2⟨rfl,rfl⟩))
  go_ret;exact⟨by simp[BK,hk],rfl⟩
theorem anc (a b:Int) (w:World) :
  Calls Tryz.prog 183 #[.agg #[.int .i64 a,.int .i64 b]] w λe w'=>e=.returned (.bool (decide (a<=12)&&decide (b<=12)))/\Below w.heap.size w w':=by
 go_enter Tryz.func183,Tryz.ntmps183;go_wp2;all_goals go_ret
 all_goals exact⟨pY (by first|(simp_all;done)|(simp_all;omega)),(Zl _ _).alloc (Zj _) _⟩
theorem adL (k:Int) (w:World) :
  Calls Tryz.prog 116 #[.int .i64 k] w λe w'=>e=.returned (.tuple #[.int .i64 (fJ k).1,.int .i64 (fJ k).2])/\w=w':=by
 go_enter Tryz.func116,Tryz.ntmps116;go_wp2;all_goals go_ret2
 all_goals exact⟨by simp_all [fJ],rfl⟩
def nH (b:Bool) (w:World) (e:Ending) (w':World):Prop:=e=.returned (.bool b)/\Below w.heap.size w w'
def aU (w:World) (v:Value) (zs:List Int):Prop:=nD 1 v zs.length λi b o=>∃h:i<zs.length,w.cell? ⟨b,o,none⟩=some (.int .i64 zs[i])
theorem aU.keep {w w':World} (hb:Below w.heap.size w w') {v:Value} {zs:List Int} (h:aU w v zs):aU w' v zs :=
 nD.mono h λ_ _ _ ⟨hi,r⟩=>⟨hi,aK hb r⟩
def gU (x:Int):List Value:=[.int .i64 x]
theorem sF (x:Int):(gU x).length=1:=rfl
def Rw (w:World) (B:Nat) (v:Value) (xs:List Int):Prop:=w.ownsRow B 3 1 v xs.length (xs.flatMap gU)
theorem Rw.keep {w w':World} {B:Nat} {v:Value} {xs:List Int} (hb:Below w.heap.size w w') (h:Rw w B v xs):Rw w' B v xs:=jL hb h
theorem Rw.grown {w w':World} {B:Nat} {v:Value} {xs:List Int} {row:Option Nat} (h:Rw w B v xs) (hg:w.grownBy w' row) (hr:∀k,v.ownBlock=some k->row≠some k):Rw w' B v xs:=by
 refine⟨h.1,?_⟩;rcases h.2 with hn|⟨g,cap,cur,rfl,wu,jF,rest⟩
 ·exact .inl hn
 ·exact .inr ⟨g,cap,cur,rfl,wu,(hg.block g (ZP.1 jF).1 (λe=>hr g rfl e.symm)).trans jF,rest⟩
theorem Rw.other {w:World} {B:Nat} {v:Value} {xs:List Int} (h:Rw w B v xs) (a:Addr) (u:Value) (ha:a.block<B):Rw (w.setCell a u) B v xs :=
 eP h a u (λe=>by have:=(Zh h _ e).1;omega)
theorem Rw.cell {w:World} {B g cap n:Nat} {xs:List Int} (h:Rw w B (.slice (some ⟨g,0,none⟩) n cap) xs) (i:Nat) (hi:i<xs.length):w.cell? ⟨g,i,none⟩=some (.int .i64 xs[i]):=by
 have hn:n=xs.length:=by
  rcases h.2 with⟨h',_⟩|⟨g',cap',cur,h',_⟩
  ·simp at h'
  ·simp only[Zx]at h';exact h'.2.1
 subst hn;have:=mV sF h i 0 hi (by omega);simpa[gU]using this
structure uq (w:World) (B xb:Nat) (v0 v1 v2:Value) (gJ xs1 xs2:List Int):Prop where
 lt:xb<B
 bz:xb<w.heap.size
 x0:w.cell? ⟨xb,0,none⟩=some v0
 x1:w.cell? ⟨xb,1,none⟩=some v1
 x2:w.cell? ⟨xb,2,none⟩=some v2
 fx:∀j,w.frozen? ⟨xb,j,none⟩=false
 r0:Rw w B v0 gJ
 r1:Rw w B v1 xs1
 r2:Rw w B v2 xs2
 a01:Apart v0 v1
 a02:Apart v0 v2
 a12:Apart v1 v2
theorem Apart.symm {a b:Value} (h:Apart a b):Apart b a:=λk hk eH=>h k eH hk
theorem uq.keep {w w':World} {B xb:Nat} {v0 v1 v2:Value} {gJ xs1 xs2:List Int} (h:uq w B xb v0 v1 v2 gJ xs1 xs2) (hb:Below w.heap.size w w'):uq w' B xb v0 v1 v2 gJ xs1 xs2:=by
 obtain⟨lt,bz,x0,x1,x2,fx,r0,r1,r2,a1,a2,a3⟩:=h;exact⟨lt,Yc bz hb.size,aK hb x0,aK hb x1,aK hb x2,λj=>(hb.frozen (p:=⟨xb,j,none⟩) bz).trans (fx j),r0.keep hb,r1.keep hb,r2.keep hb,a1,a2,a3⟩
theorem RQ {w:World} {B:Nat} {v v' u:Value} {xs:List Int} (h:Apart v u) (hu:Rw w B u xs) (hv:v'.ownBlock=v.ownBlock\/v'.ownBlock=some w.heap.size):Apart v' u:=by
 intro k hk eH;rcases hv with e|e
 ·exact h k (e▸hk) eH
 ·rw[e]at hk;obtain rfl:=Zy hk;have:=(Zh hu _ eH).2;omega
theorem RS {w w':World} {row:Option Nat} (hg:w.grownBy w' row) {b o:Nat} (hb:b<w.heap.size) (hr:row≠some b):w'.cell? ⟨b,o,none⟩=w.cell? ⟨b,o,none⟩/\w'.frozen? ⟨b,o,none⟩=w.frozen? ⟨b,o,none⟩ :=
 have e:=hg.block b hb (λe=>hr e.symm)
 ⟨XS (w:=w) e,Vd (w:=w) e⟩
theorem row_ne {w:World} {B xb:Nat} {v:Value} {xs:List Int} (h:Rw w B v xs) (hx:xb<B):v.ownBlock≠some xb:=λe=>by have:=(Zh h _ e).1;omega
section
variable {w w':World} {B xb:Nat} {v0 v1 v2 v':Value} {gJ xs1 xs2:List Int} {f:Int}
theorem uq.app0 (h:uq w B xb v0 v1 v2 gJ xs1 xs2) (hg:w.grownBy w' v0.ownBlock) (hr:Rw w' B v' (gJ++[f])) (ho:v'.ownBlock=v0.ownBlock\/v'.ownBlock=some w.heap.size) :
  uq (w'.setCell ⟨xb,0,none⟩ v') B xb v' v1 v2 (gJ++[f]) xs1 xs2:=by
 obtain⟨lt,bz,x0,x1,x2,fx,r0,r1,r2,a1,a2,a3⟩:=h;have hn:=row_ne r0 lt;have c:=λo=>RS hg (o:=o) bz hn;have hz:xb<w'.heap.size:=Yc bz hg.size;have e0:=(c 0).1.trans x0;refine⟨lt,by simpa using hz,?_,?_,?_,?_,hr.other _ _ lt,(r1.grown hg λk hk e=>a1 k e hk).other _ _ lt,(r2.grown hg λk hk e=>a2 k e hk).other _ _ lt,RQ a1 r1 ho,RQ a2 r2 ho,a3⟩
 ·simp[go_sem,e0]
 ·simp[go_sem,(c 1).1,x1]
 ·simp[go_sem,(c 2).1,x2]
 ·intro j;simp[go_sem,(c j).2,fx]
theorem uq.app1 (h:uq w B xb v0 v1 v2 gJ xs1 xs2) (hg:w.grownBy w' v1.ownBlock) (hr:Rw w' B v' (xs1++[f])) (ho:v'.ownBlock=v1.ownBlock\/v'.ownBlock=some w.heap.size) :
  uq (w'.setCell ⟨xb,1,none⟩ v') B xb v0 v' v2 gJ (xs1++[f]) xs2:=by
 obtain⟨lt,bz,x0,x1,x2,fx,r0,r1,r2,a1,a2,a3⟩:=h;have hn:=row_ne r1 lt;have c:=λo=>RS hg (o:=o) bz hn;have hz:xb<w'.heap.size:=Yc bz hg.size;have e1:=(c 1).1.trans x1;refine⟨lt,by simpa using hz,?_,?_,?_,?_,(r0.grown hg λk hk e=>a1 k hk e).other _ _ lt,hr.other _ _ lt,(r2.grown hg λk hk e=>a3 k e hk).other _ _ lt,(RQ a1.symm r0 ho).symm,a2,RQ a3 r2 ho⟩
 ·simp[go_sem,(c 0).1,x0]
 ·simp[go_sem,e1]
 ·simp[go_sem,(c 2).1,x2]
 ·intro j;simp[go_sem,(c j).2,fx]
theorem uq.RU (h:uq w B xb v0 v1 v2 gJ xs1 xs2) (hg:w.grownBy w' v2.ownBlock) (hr:Rw w' B v' (xs2++[f])) (ho:v'.ownBlock=v2.ownBlock\/v'.ownBlock=some w.heap.size) :
  uq (w'.setCell ⟨xb,2,none⟩ v') B xb v0 v1 v' gJ xs1 (xs2++[f]):=by
 obtain⟨lt,bz,x0,x1,x2,fx,r0,r1,r2,a1,a2,a3⟩:=h;have hn:=row_ne r2 lt;have c:=λo=>RS hg (o:=o) bz hn;have hz:xb<w'.heap.size:=Yc bz hg.size;have e2:=(c 2).1.trans x2;refine⟨lt,by simpa using hz,?_,?_,?_,?_,(r0.grown hg λk hk e=>a2 k hk e).other _ _ lt,(r1.grown hg λk hk e=>a3 k hk e).other _ _ lt,hr.other _ _ lt,a1,(RQ a2.symm r0 ho).symm,(RQ a3.symm r1 ho).symm⟩
 ·simp[go_sem,(c 0).1,x0]
 ·simp[go_sem,(c 1).1,x1]
 ·simp[go_sem,e2]
 ·intro j;simp[go_sem,(c j).2,fx]
end
structure aO where
 kind:Int
 value:Int
 aj:List Int
 ay:List Int
 deriving DecidableEq
structure aF where
 aB:Int
 ah:List aO
 aj:List Int
 ay:List Int
 deriving DecidableEq
structure SnI where
 p:Int
 k:Int
 l:Int
 past:List aF
 now:aF
 future:List aF
 goal:aF
 deriving DecidableEq
def aag (w:World) (e:aO) (b o:Nat):Prop :=
 w.cell? ⟨b,o,none⟩=some (.int .i64 e.kind)/\w.cell? ⟨b,o+1,none⟩=some (.int .i64 e.value) /\
  ∃vi vo,w.cell? ⟨b,o+2,none⟩=some vi/\w.cell? ⟨b,o+3,none⟩=some vo/\aU w vi e.aj/\aU w vo e.ay
def oM (w:World) (v:Value) (L:List aO):Prop:=nD 4 v L.length λi b o=>∃h:i<L.length,aag w L[i] b o
structure dM (w:World) (ve vi vo:Value) (g:aF):Prop where
 ed:oM w ve g.ah
 inn:aU w vi g.aj
 out:aU w vo g.ay
def ane (w:World) (g:aF) (b o:Nat):Prop :=
 w.cell? ⟨b,o,none⟩=some (.int .i64 g.aB) /\
  ∃ve vi vo,w.cell? ⟨b,o+1,none⟩=some ve/\w.cell? ⟨b,o+2,none⟩=some vi/\w.cell? ⟨b,o+3,none⟩=some vo/\dM w ve vi vo g
def agX (w:World) (v:Value) (L:List aF):Prop:=nD 4 v L.length λi b o=>∃h:i<L.length,ane w L[i] b o
theorem aag.keep {w w':World} (hb:Below w.heap.size w w') {d:aO} {b o:Nat} (h:aag w d b o):aag w' d b o:=by
 obtain⟨h1,h2,vi,vo,h3,h4,h5,h6⟩:=h;exact⟨aK hb h1,aK hb h2,vi,vo,aK hb h3,aK hb h4,h5.keep hb,h6.keep hb⟩
theorem oM.keep {w w':World} (hb:Below w.heap.size w w') {v:Value} {L:List aO} (h:oM w v L):oM w' v L :=
 nD.mono h λ_ _ _ ⟨hi,r⟩=>⟨hi,r.keep hb⟩
theorem dM.keep {w w':World} (hb:Below w.heap.size w w') {a b c:Value} {g:aF} (h:dM w a b c g):dM w' a b c g:=⟨h.ed.keep hb,h.inn.keep hb,h.out.keep hb⟩
theorem aU.slice {w:World} {v:Value} {zs:List Int} (h:aU w v zs):∃a c,v=.slice a zs.length c:=by
 obtain⟨a,cap,rfl,_⟩:=h;exact⟨a,cap,rfl⟩
theorem oM.slice {w:World} {v:Value} {zs:List aO} (h:oM w v zs):∃a c,v=.slice a zs.length c:=by
 obtain⟨a,cap,rfl,_⟩:=h;exact⟨a,cap,rfl⟩
theorem dM.slices {w:World} {ve vi vo:Value} {g:aF} (h:dM w ve vi vo g):(∃a c,ve=.slice a g.ah.length c)/\(∃a c,vi=.slice a g.aj.length c)/\∃a c,vo=.slice a g.ay.length c :=
 ⟨h.ed.slice,h.inn.slice,h.out.slice⟩
structure MI (e:aO):Prop where
 inn:e.aj.length<=1048576
 out:e.ay.length<=1048576
structure nJ (g:aF):Prop where
 ed:g.ah.length<=1048576
 xO:∀e∈g.ah,MI e
 inn:g.aj.length<=1048576
 out:g.ay.length<=1048576
structure avt (s:SnI):Prop where
 np:s.past.length<=1048576
 past:∀g∈s.past,nJ g
 now:nJ s.now
 nf:s.future.length<=1048576
 future:∀g∈s.future,nJ g
 goal:nJ s.goal
structure SnR (w:World) (vp ne ni no vf ge gi go:Value) (s:SnI):Prop where
 past:agX w vp s.past
 now:dM w ne ni no s.now
 future:agX w vf s.future
 goal:dM w ge gi go s.goal
def nK (x:aO×Value×Value):List Value:=[.int .i64 x.1.kind,.int .i64 x.1.value,x.2.1,x.2.2]
theorem RX (x:aO×Value×Value):(nK x).length=4:=rfl
def FI (x:aF×Value×Value×Value):List Value:=[.int .i64 x.1.aB,x.2.1,x.2.2.1,x.2.2.2]
theorem agY (x:aF×Value×Value×Value):(FI x).length=4:=rfl
theorem Rw.mono {w:World} {B B':Nat} {v:Value} {xs:List Int} (hB:B'<=B) (h:Rw w B v xs):Rw w B' v xs:=FD hB h
theorem Rw.at {w:World} {B:Nat} {v:Value} {xs:List Int} (h:Rw w B v xs):aU w v xs:=by
 refine Me h _ λi b o hi hc=>⟨hi,?_⟩
 have:=(hc 0 (by omega)).trans (flat_get sF xs i 0 hi (by omega));simpa[gU]using this
structure EdO (w:World) (B:Nat) (v:Value) (L:List aO) (xs:List (aO×Value×Value)):Prop where
 fst:xs.map Prod.fst=L
 row:w.ownsRow B 102 4 v xs.length (xs.flatMap nK)
 rws:∀x∈xs,Rw w B x.2.1 x.1.aj/\Rw w B x.2.2 x.1.ay
def mW (w:World) (B:Nat) (v:Value) (L:List aO):Prop:=∃xs,EdO w B v L xs
structure dB (w:World) (B:Nat) (ve vi vo:Value) (g:aF):Prop where
 ed:mW w B ve g.ah
 inn:Rw w B vi g.aj
 out:Rw w B vo g.ay
structure anf (w:World) (B:Nat) (v:Value) (L:List aF) (xs:List (aF×Value×Value×Value)):Prop where
 fst:xs.map Prod.fst=L
 row:w.ownsRow B 33 4 v xs.length (xs.flatMap FI)
 rws:∀x∈xs,dB w B x.2.1 x.2.2.1 x.2.2.2 x.1
def avu (w:World) (B:Nat) (v:Value) (L:List aF):Prop:=∃xs,anf w B v L xs
theorem mW.keep {w w':World} {B:Nat} {v:Value} {L:List aO} (hb:Below w.heap.size w w') (h:mW w B v L):mW w' B v L:=by
 obtain⟨xs,h1,h2,h3⟩:=h;exact⟨xs,h1,jL hb h2,λx hx=>⟨(h3 x hx).1.keep hb,(h3 x hx).2.keep hb⟩⟩
theorem mW.mono {w:World} {B B':Nat} {v:Value} {L:List aO} (hB:B'<=B) (h:mW w B v L):mW w B' v L:=by
 obtain⟨xs,h1,h2,h3⟩:=h;exact⟨xs,h1,FD hB h2,λx hx=>⟨(h3 x hx).1.mono hB,(h3 x hx).2.mono hB⟩⟩
theorem mW.low {w:World} {B:Nat} {v:Value} {L:List aO} (h:mW w B v L) {a:Addr} (ha:a.block<B) (u:Value):mW (w.setCell a u) B v L:=by
 obtain⟨xs,h1,h2,h3⟩:=h;exact⟨xs,h1,ownsRow_setCell_below h2 ha u,λx hx=>⟨(h3 x hx).1.other a u ha,(h3 x hx).2.other a u ha⟩⟩
theorem mW.at {w:World} {B:Nat} {v:Value} {L:List aO} (h:mW w B v L):oM w v L:=by
 obtain⟨xs,rfl,ho,hb⟩:=h;have iY:w.ownsRow B 102 4 v (xs.map Prod.fst).length (xs.flatMap nK):=by rw[ZG];exact ho
 refine Me iY _ λi b o jy hc=>⟨jy,?_⟩
 have hi:i<xs.length:=by simpa using jy
 have g:∀j,j<4->w.cell? ⟨b,o+j,none⟩=(nK xs[i])[j]?:=λj hj=>(hc j hj).trans (flat_get RX xs i j hi hj);rw[YN];have:=hb _ (Zp hi);exact⟨g 0 (by omega),g 1 (by omega),xs[i].2.1,xs[i].2.2,g 2 (by omega),g 3 (by omega),this.1.at,this.2.at⟩
theorem dB.keep {w w':World} {B:Nat} {a b c:Value} {g:aF} (hb:Below w.heap.size w w') (h:dB w B a b c g):dB w' B a b c g:=⟨h.ed.keep hb,h.inn.keep hb,h.out.keep hb⟩
theorem dB.mono {w:World} {B B':Nat} {a b c:Value} {g:aF} (hB:B'<=B) (h:dB w B a b c g):dB w B' a b c g:=⟨h.ed.mono hB,h.inn.mono hB,h.out.mono hB⟩
theorem dB.low {w:World} {B:Nat} {x y z:Value} {g:aF} (h:dB w B x y z g) {a:Addr} (ha:a.block<B) (u:Value):dB (w.setCell a u) B x y z g:=⟨h.ed.low ha u,h.inn.other a u ha,h.out.other a u ha⟩
theorem dB.at {w:World} {B:Nat} {a b c:Value} {g:aF} (h:dB w B a b c g):dM w a b c g:=⟨h.ed.at,h.inn.at,h.out.at⟩
end Go.Proofs.YtkhpobekconobaaGreat
