import Derived.Test.YtkhpobekconobaaGreatHAH
import Derived.Laws.OwnMore
import Derived.Lib.ItoaNum
import Derived.Shelf.Small.Strs
import Derived.Shelf.Strconv.Atoi
import Derived.Shelf.Strconv.Itoa0
import Derived.Shelf.Strconv.Itoa1
import Derived.Shelf.LaysM
import Derived.Shelf.Strconv.Itoa2
import Derived.Shelf.Strconv.Itoa3
import Derived.Shelf.Strings.Search1
import Derived.Shelf.Strings.Search2
import Derived.Shelf.Strings.Search3
import Derived.Shelf.Strings.Count
import Derived.Shelf.Strings.Shaped
import Derived.Shelf.Strings.Prefix
import Derived.Shelf.Unicode.DecodeSlow
import Derived.Lib.Atoi
import Derived.Lib.IndexMore
set_option linter.all false
set_option maxRecDepth 100000
set_option maxHeartbeats 0
namespace Go.Proofs.YtkhpobekconobaaGreat
open Go.RowKit
abbrev Nj:=Nc×Value×Value
def ahN (x:Nj):List Value:=[.string x.1.name,x.2.1,x.2.2]
def ace (w:World) (d:Nc) (b o:Nat):Prop :=
 w.cell? ⟨b,o,none⟩=some (.string d.name)/\(∃v,w.cell? ⟨b,o+1,none⟩=some v/\dG w v d.left)/\∃v,w.cell? ⟨b,o+2,none⟩=some v/\dG w v d.right
def aei (w:World) (v:Value) (L:List Nc):Prop:=nD 3 v L.length λi b o=>∃h:i<L.length,ace w L[i] b o
def ahO (x y:Nj):Prop:=Apart x.2.1 y.2.1/\Apart x.2.1 y.2.2/\Apart x.2.2 y.2.1/\Apart x.2.2 y.2.2
def aoF (w:World) (B:Nat) (v:Value) (xs:List Nj):Prop :=
 w.ownsRow B 66 3 v xs.length (xs.flatMap ahN)/\(∀x∈xs,jA w B x.2.1 x.1.left/\jA w B x.2.2 x.1.right/\Apart x.2.1 x.2.2)/\xs.Pairwise ahO
theorem ace.keep {w w':World} (hb:Below w.heap.size w w') {d:Nc} {b o:Nat} (h:ace w d b o):ace w' d b o:=by
 obtain⟨h1,⟨v,h2,h3⟩,u,h4,h5⟩:=h;exact⟨aK hb h1,⟨v,aK hb h2,h3.keep hb⟩,u,aK hb h4,h5.keep hb⟩
def avz (w:World) (g:Nat) (L:List (Value×List Nd)):Prop:=∀j,∀h:j<L.length,w.cell? ⟨g,j,none⟩=some (L[j]'h).1/\dG w (L[j]'h).1 (L[j]'h).2
structure Tk where
 kind:Int
 text:ByteArray
 pos:Int
 deriving DecidableEq
abbrev Rd:=List (Nd×Int)
def ahP (s:ByteArray):Int:=s.data.toList.foldl (λn b=>10*n+((b.toNat:Int)-48)) 0
def J8 (x:W2):List Value:=[.int .i64 x.1,.int .i64 x.2]
theorem O_ (x:W2):(J8 x).length=2:=rfl
def jJ (L:List Df) (n:Nd):Option W2:=if(FU L n).2 then some (FU L n).1 else none
theorem aoG:(Tryz.prog.info? 189).map (λi=>(i.zero,i.size,i.bytes))=some (some (.agg #[.int .i64 0,.int .i64 0]),2,16):=by kernel_rfl
theorem ahQ {w:World} {B e sz g n cap:Nat} {xs:List Value} (h:w.ownsRow B e sz (.slice (some ⟨g,0,none⟩) n cap) n xs) (m:Nat) (hm:m<=n) :
  w.ownsRow B e sz (.slice (some ⟨g,0,none⟩) m cap) m (xs.take (m*sz)):=by
 have qE:m*sz<=n*sz:=XN _ hm;obtain⟨h1,h2⟩:=h;refine⟨by rw[ZJ,h1];omega,?_⟩;rcases h2 with⟨h,_⟩|⟨g',cap',cur,h,hb,hg,hc,Nk,hs,ht⟩
 ·simp at h
 ·simp only[Zx,ZQ,Xm,WG,Wh]at h;obtain⟨rfl,rfl⟩:=h;refine .inr ⟨g,cap,cur,rfl,hb,hg,by omega,Nk,hs,?_⟩;rw[<-ht,Wq,YR qE]
def Stk (wr:World) (B:Nat) (v:Value) (st:List W2):Prop:=wr.ownsRow B 189 2 v st.length (st.flatMap J8)/\∀x∈st,Sm x
def ahR (L:List Df) (ns:List Nd) (w:World) (e:Ending) (w':World):Prop :=
 ∃x:W2,e=.returned (.tuple #[.agg #[.int .i64 x.1,.int .i64 x.2],.bool (bP (jJ L) ns).isSome])/\(∀t,bP (jJ L) ns=some t->x=t)/\Below w.heap.size w w'
def DI (w:World):World:=w.alloc (.cells #[.int .i64 0,.int .i64 0] 189)
def Pg (L:List Df) (ns:List Nd) (w wr:World) (v:Value) (k:Nat) (st:List W2):Prop :=
 Stk wr (w.heap.size+1) v st/\Hid (eX (jJ L) ns []=eX (jJ L) (ns.drop k) st.reverse)/\Below (w.heap.size+1) (DI w) wr/\st.length<=k/\(k=0\/st≠[])
theorem Pg.facts {L:List Df} {ns:List Nd} {w wr:World} {v:Value} {k:Nat} {st:List W2} (h:Pg L ns w wr v k st) :
  wr.cell? ⟨w.heap.size,0,none⟩=some (.int .i64 0)/\wr.cell? ⟨w.heap.size,1,none⟩=some (.int .i64 0)/\wr.frozen? ⟨w.heap.size,0,none⟩=false/\wr.frozen? ⟨w.heap.size,1,none⟩=false/\w.heap.size<wr.heap.size/\Below w.heap.size w wr:=by
 obtain⟨_,_,hb,_⟩:=h;have hsz:=hb.size;have h0:(DI w).heap.size=w.heap.size+1:=by simp[DI]
 refine⟨?_,?_,?_,?_,by omega,((Zl _ _).alloc (Zj _) _).trans (hb.mono (by omega))⟩
 ·rw[hb.cell (p:=⟨w.heap.size,0,none⟩) (by simp)];simp[DI]
 ·rw[hb.cell (p:=⟨w.heap.size,1,none⟩) (by simp)];simp[DI]
 ·rw[hb.frozen (p:=⟨w.heap.size,0,none⟩) (by simp)];simp[DI]
 ·rw[hb.frozen (p:=⟨w.heap.size,1,none⟩) (by simp)];simp[DI]
theorem aoH {L:List Df} (hsm:∀d∈L,Sm (d.inn,d.out)) {n:Nd} {x:W2} (h:jJ L n=some x):Sm x:=by
 unfold jJ at h;split at h
 ·rename_i aP
  obtain rfl:=Zy h;unfold FU at aP ⊢;split at aP
  ·rename_i hk
   rw[ZE hk];simp only[Zu]at aP;obtain⟨d,hd⟩:=Xj.1 aP.1;rw[hd];have hm:d∈L:=by have:=List.mem_of_find?_eq_some hd;simpa using this
   exact hsm d hm
  ·rename_i hk
   rw[ZH hk];unfold fZ at aP ⊢;split
   ·simp_all
   ·rename_i h1
    rw[ZH h1]at aP;split
    ·rename_i h2
     rw[ZE h2]at aP;simp[inB]at aP;exact⟨aP.1,aP.2,aP.1,aP.2⟩
    ·rename_i h2
     rw[ZH h2]at aP;split
     ·exact⟨by simp,by simp,by simp,by simp⟩
     ·rename_i h3
      split
      ·simp only[fJ];repeat' split
       all_goals exact⟨by simp,by simp,by simp,by simp⟩
      ·exact⟨by simp,by simp,by simp,by simp⟩
 ·cases h
theorem aoI {k:Int} {a b x:W2} (ha:Sm a) (hb:Sm b) (h:og k a b=some x):Sm x:=by
 obtain⟨p1,p2,p3,p4⟩:=ha;obtain⟨q1,q2,q3,q4⟩:=hb;unfold og at h;split at h
 ·split at h
  ·obtain rfl:=Zy h;exact⟨p1,p2,q3,q4⟩
  ·cases h
 ·split at h
  ·rename_i hh
   obtain rfl:=Zy h;exact⟨by simp;omega,hh.1,by simp;omega,hh.2⟩
  ·cases h
theorem acf {w:World} {B e sz:Nat} {v:Value} {n:Nat} {xs:List Value} (h:w.ownsRow B e sz v n xs):∃ao cp,v=.slice ao n cp:=by
 rcases h.2 with⟨rfl,rfl⟩|⟨g,cap,cur,rfl,_⟩
 ·exact⟨_,_,rfl⟩
 ·exact⟨_,_,rfl⟩
theorem aar {w:World} {B e sz:Nat} {v:Value} {n:Nat} {xs:List Value} (h:w.ownsRow B e sz v n xs) (hn:0<n):∃g cp,v=.slice (some ⟨g,0,none⟩) n cp/\n<=cp/\cp<=maxLen/\B<=g/\g<w.heap.size:=by
 have h':=h;rcases h.2 with⟨rfl,rfl⟩|⟨g,cap,cur,rfl,hb,hg,hc,hm,_⟩
 ·omega
 ·exact⟨g,cap,rfl,hc,hm,hb,(Zh h' g rfl).2⟩
theorem aoJ {α:Type} (st:List α) (h:¬st.length<2):∃(s:List α) (a b:α),st=s++[a,b]:=by
 match hr:st.reverse,h with
 | [],h=>have:=congrArg List.length hr;simp at this;subst this;simp at h
 | [x],h=>have:=congrArg List.length hr;simp at this;omega
 | b::a::r,h =>
  refine⟨r.reverse,a,b,?_⟩;have:=congrArg List.reverse hr;simpa using this
theorem aoK {L:List Df} {ns:List Nd} {w wr w2 w3:World} {v v':Value} {k:Nat} {st:List W2} {x:W2} {o o2 o3:Obj} (h:Pg L ns w wr v k st)
  (hgo:Hid (eX (jJ L) ns []=eX (jJ L) (ns.drop (k+1)) (x::st.reverse))) (hx:Sm x) (hb2:Below (wr.alloc o).heap.size (wr.alloc o) w2)
  (hown:w3.ownsRow (w.heap.size+1) 189 2 v' (st.length+1) (st.flatMap J8++[.int .i64 x.1,.int .i64 x.2])) (hg:((w2.alloc o2).alloc o3).grownBy w3 v.ownBlock):Pg L ns w w3 v' (k+1) (st++[x]):=by
 have hf:=h.facts;obtain⟨⟨h1,h2⟩,h3,h4,h5,h6⟩:=h;have hz:=hb2.size;have CJ:=h4.size;simp only[Zn,DI]at hz CJ;refine⟨⟨?_,?_⟩,?_,?_,by simp;omega,.inr (by simp)⟩
 ·rw[Zk,ZL];exact hown
 ·intro y hy;rcases Zs.1 hy with hy|hy
  ·exact h2 y hy
  ·simp at hy;subst hy;exact hx
 ·rw[Xg];exact hgo
 ·have hb:Below (w.heap.size+1) (DI w) ((w2.alloc o2).alloc o3) :=
   (((h4.alloc (by omega) o).trans (hb2.mono (by simp;omega))).alloc (by omega) _).alloc (by simp;omega) _
  exact hb.grown hg (by simp;omega) (λj hj=>(Zh h1 j hj).1)
theorem aoL {L:List Df} {ns:List Nd} {w wr w2:World} {v v':Value} {k:Nat} {st0:List W2} {p q x:W2} (h:Pg L ns w wr v k (st0++[p,q]))
  (hgo:Hid (eX (jJ L) ns []=eX (jJ L) (ns.drop (k+1)) (x::st0.reverse))) (hx:Sm x) (hb:Below (w.heap.size+1) wr w2)
  (hown:w2.ownsRow (w.heap.size+1) 189 2 v' (st0.length+1) (st0.flatMap J8++[.int .i64 x.1,.int .i64 x.2])):Pg L ns w w2 v' (k+1) (st0++[x]):=by
 obtain⟨⟨h1,h2⟩,h3,h4,h5,h6⟩:=h;simp at h5;refine⟨⟨?_,?_⟩,?_,h4.trans hb,by simp;omega,.inr (by simp)⟩
 ·rw[Zk,ZL];exact hown
 ·intro y hy;rcases Zs.1 hy with hy|hy
  ·exact h2 y (Zs.2 (.inl hy))
  ·simp at hy;subst hy;exact hx
 ·rw[Xg];exact hgo
def Uniq (L:List Df):Prop:=L.Pairwise λa b=>a.name≠b.name
theorem aoM (L:List Df) (s:ByteArray) (h:Uniq L):abV L s=findD L s:=by
 unfold abV findD;induction L with
 | nil=>rfl
 | cons d r ih =>
  have h':=Yd.1 h;rw[VC,List.find?_append,ih h'.2];by_cases hd:d.name=s
  ·have:(r.find? λd=>decide (d.name=s))=none:=by
    rw[List.find?_eq_none];intro x hx;simpa using λe=>h'.1 x hx (hd.trans e.symm)
   rw[this];simp[hd]
  ·simp[hd]
theorem aoN {L:List Df} (h:Uniq L) (n:Nd) (h1:¬(n.kind=15\/n.kind=16)):jJ L n=bI L n:=by
 unfold jJ FU;by_cases hk:n.kind=17
 ·rw[ZE hk,aoM L _ h];unfold bI;rw[ZE hk];cases hf:findD L n.name with
  | none=>simp
  | some d=>by_cases hv:n.value=0<;>simp[hv]
 ·rw[ZH hk,anQ n hk (by omega) (by omega)];unfold bI;rw[ZH hk,ZH hk]
theorem aej {f g:Nd->Option W2} (h:∀n,¬(n.kind=15\/n.kind=16)->f n=g n):∀(ns:List Nd) (st:List W2),eX f ns st=eX g ns st
 | [],st=>rfl
 | n::r,st=>by
  unfold eX;split
  ·split
   ·split
    ·split
     ·exact aej h r _
     ·rfl
    ·rfl
   ·rfl
  ·rename_i hk
   rw[h n hk];split
   ·exact aej h r _
   ·rfl
theorem aoO {f g:Nd->Option W2} (h:∀n,¬(n.kind=15\/n.kind=16)->f n=g n) (ns:List Nd):bP f ns=bP g ns:=by
 unfold bP;rw[aej h]
theorem ahS {L:List Df} (h:Uniq L) (ns:List Nd):bP (jJ L) ns=bP (bI L) ns:=aoO (aoN h) ns
def aoP (L:List Df) (d:Df):Bool:=decide (bP (bI L) d.body=some (d.inn,d.out))&&nameB d.name&&(findD L d.name).isNone
def ahT:List Df->List Df->Bool
 | _,[]=>true
 | P,d::r=>aoP P d&&ahT (P++[d]) r
def good (L:List Df):Bool:=decide (L.length<=12)&&ahT [] L
theorem ahU (name:ByteArray):∀(L:List Df) (k:Nat),(wG name L k=-1/\findD L name=none)\/∃(i:Nat) (hi:i<L.length),wG name L k=((k+i:Nat):Int)/\findD L name=some L[i]
 | [],k=>.inl ⟨rfl,rfl⟩
 | d::r,k=>by
  unfold wG findD;by_cases h:d.name=name
  ·rw[ZE h];exact .inr ⟨0,by simp,by simp,by simp[h]⟩
  ·rw[ZH h];rcases ahU name r (k+1)with⟨h1,h2⟩|⟨i,hi,h1,h2⟩
   ·exact .inl ⟨h1,by simp[h];simpa[findD]using h2⟩
   ·refine .inr ⟨i+1,by simpa using hi,by rw[h1];congr 1;omega,?_⟩;rw[List.find?_cons_of_neg (by simpa using h)];simpa[findD]using h2
def okL (L:List Df):Option (List Df):=if good L then some L else none
def aoQ (L:List Df) (d:Df):Option (List Df):=if good L then okL (L++[d])else none
def aoR (L:List Df) (s:ByteArray):Option (List Df):=if good L=true/\0<=wG s L 0 then okL (L.eraseIdx (wG s L 0).toNat)else none
def aoS (a b:ByteArray) (n:Nd):Nd:=if n.kind=17/\n.name=a then⟨n.kind,n.value,b⟩else n
def aoT (a b:ByteArray) (d:Df):Df:=⟨if d.name=a then b else d.name,d.inn,d.out,d.body.map (aoS a b)⟩
def aoU (L:List Df) (a b:ByteArray):Option (List Df):=if good L=true/\0<=wG a L 0 then okL (L.map (aoT a b))else none
def joD (L:List Df) (e:En):Df:=⟨e.name,((bP (bI L) e.body).getD (0,0)).1,((bP (bI L) e.body).getD (0,0)).2,e.body⟩
def aoV (e:En):Bool:=(decide (e.kind=3) || decide (e.to=ByteArray.empty))&&(decide (e.kind=1) || decide (e.body=[]))
def aoW (L:List Df) (e:En):Option (List Df) :=
 if good L=true/\aoV e=true then
  (if e.kind=1 then aoQ L (joD L e)else if e.kind=2 then aoR L e.name else if e.kind=3 then aoU L e.name e.to else none)
 else none
theorem Nl {f:Nd->Option W2} {ns:List Nd} {t:W2} (h:bP f ns=some t):ns.length<=400:=by
 unfold bP at h;split at h
 ·omega
 ·cases h
inductive Tr where
 | leaf (n:Nd)
 | seq (a b:Tr)
 | par (a b:Tr)
def Tr.acg:Tr->Bool
 | .seq _ _=>true
 | _=>false
def Tr.ach:Tr->Bool
 | .par _ _=>true
 | _=>false
def Tr.count:Tr->Nat
 | .leaf _=>1
 | .seq a b=>a.count+b.count+1
 | .par a b=>a.count+b.count+1
def aci:List Nd->List Tr->Option (List Tr)
 | [],st=>some st
 | n::r,st =>
  if n.kind=15 then
   (match st with
   | b::a::st'=>aci r (.seq a b::st')
   | _=>none)
  else if n.kind=16 then
   (match st with
   | b::a::st'=>aci r (.par a b::st')
   | _=>none)
  else aci r (.leaf n::st)
def aoX:ByteArray:=⟨#[40]⟩
def aoY:ByteArray:=⟨#[41]⟩
def aoZ:ByteArray:=⟨#[32,59,32]⟩
def ao3:ByteArray:=⟨#[32,42,32]⟩
def bSp:ByteArray:=⟨#[32]⟩
def bEq:ByteArray:=⟨#[32,61,32]⟩
def ahV (v:Int):ByteArray:=⟨(Lib.decDigits v.toNat).toArray⟩
def word (k:Int):ByteArray:=Ep.getD k.toNat ⟨#[]⟩
def ao4 (n:Nd):ByteArray:=if n.kind=17 then n.name else if n.kind=1\/n.kind=7\/n.kind=13 then word n.kind++bSp++ahV n.value else word n.kind
def brk (s:ByteArray) (b:Bool):ByteArray:=if b then aoX++s++aoY else s
def prT (full:Bool):Tr->ByteArray
 | .leaf n=>ao4 n
 | .seq a b=>brk (prT full a) (full&&(a.acg || a.ach))++aoZ++brk (prT full b) (b.acg || full&&b.ach)
 | .par a b=>brk (prT full a) (a.acg || full&&a.ach)++ao3++brk (prT full b) (b.acg || b.ach)
def ao6 (ns:List Nd):Tr:=((aci ns []).getD []).headD (.leaf ⟨0,0,⟨#[]⟩⟩)
def ao7:ByteArray:=⟨#[108,101,116,32]⟩
def ao8:ByteArray:=⟨#[100,114,111,112,32]⟩
def bName:ByteArray:=⟨#[110,97,109,101,32]⟩
def ao9 (e:En):ByteArray :=
 if e.kind=1 then ao7++(e.name++bEq++prT false (ao6 e.body))else if e.kind=2 then ao8++e.name else bName++(e.name++bSp++e.to)
def chk:List UInt8->Int->Int
 | [],n=>n
 | b::r,n=>chk r ((131*n+b.toNat+1) % 65521)
def apa (s:ByteArray):Int:=chk s.data.toList 7
def apb:ByteArray:=⟨#[32,35]⟩
def bNl:ByteArray:=⟨#[10]⟩
def apc (s:ByteArray):ByteArray:=s++apb++ahV (apa s)++bNl
def ahW:List Df->ByteArray->List En->Option ByteArray
 | _,out,[]=>some out
 | L,out,e::r =>
  match aoW L e with
  | none=>none
  | some R=>ahW R (out++apc (ao9 e)) r
def avA (es:List En):Option ByteArray :=
 if es.length<=60 then
  (match ahW [] ⟨#[]⟩ es with
  | some s=>if s.size<=60000 then some s else none
  | none=>none)
 else none
def glue (acc:List Tk):Except (Int×Int) (List Tk)->Except (Int×Int) (List Tk)
 | .ok r=>.ok (acc++r)
 | .error e=>.error e
section
variable {s:ByteArray} {k:Nat}
end
def apd (s:ByteArray):Prop:=∀i (h:i<s.size),FH s[i]=true
def ape (s:ByteArray):Bool:=decide (s.size<=6)&&!(decide (1<s.size)&&decide ((s.data.toList.headD 0)=48))
def rdV (s:ByteArray):Int:=if ape s then ahP s else -1
structure apf (t:Tk):Prop where
 size:t.text.size<=40000
 word:t.kind=1->1<=t.text.size
 num:t.kind=2->apd t.text/\1<=t.text.size/\t.text.size<=6/\rdV t.text=ahP t.text
def apg (ts:List Tk):Prop:=∀t∈ts,apf t
section
variable {leaf:Nd -> Option W2} {x:Nd × Int} {r:Rd} {i:Nat} {st:List W2}
end
def Tr.nodes:Tr->List Nd
 | .leaf n=>[n]
 | .seq a b=>a.nodes++b.nodes++[⟨15,0,⟨#[]⟩⟩]
 | .par a b=>a.nodes++b.nodes++[⟨16,0,⟨#[]⟩⟩]
def aph (n:Nd):Prop:=(n.kind=17/\n.value=0/\nameB n.name=true)\/jB n=true
def Tr.Good:Tr->Prop
 | .leaf n=>aph n
 | .seq a b=>a.Good/\b.Good
 | .par a b=>a.Good/\b.Good
def avC (x:ByteArray):Bool:=match x.data.toList with
 | b::w=>wH b&&w.all BU
 | []=>false
def e0:En:=⟨0,⟨#[]⟩,⟨#[]⟩,[]⟩
def apj (w:World) (t:Tk) (b o:Nat):Prop :=
 w.cell? ⟨b,o,none⟩=some (.int .i64 t.kind)/\w.cell? ⟨b,o+1,none⟩=some (.string t.text)/\w.cell? ⟨b,o+2,none⟩=some (.int .i64 t.pos)
def avD (w:World) (v:Value) (ts:List Tk):Prop:=apg ts/\nD 3 v ts.length λi b o=>∃h:i<ts.length,apj w ts[i] b o
structure Fr (B br:Nat) (w w':World):Prop where
 os:w'.os=w.os
 tape:w'.tape=w.tape
 output:w'.output=w.output
 size:w.heap.size<=w'.heap.size
 block:∀k,k<B->k≠br->w'.heap[k]?=w.heap[k]?
def avE (B br:Nat) (v:Value):Prop:=∀b o n c,v=.slice (some ⟨b,o,none⟩) n c->b<B/\b≠br
section
variable {P:Program} {ops:Array Oper} {C:World -> Prop} {N:Nat} {Q:Exit -> Act -> World -> Prop}
theorem apk {Q1:Exit->Act->World->Prop} (E:List Nat) (m:Nat) (jG:Si ops) (hG:Au C N) (f:Nat) (Sl:∀(j:Nat) (oj:Oper),ops[j]?=some oj->∀e∈oj.after,Region.binds .any e=true->e.on<ops.size) (Sr:∀j,j<ops.size->Region.waitsFor .any ops j j=false) :
  ∀(n:Nat) (l:List Nat) (listed:Array Bool) (bs:Nat->Prop) (a:Act) (w:World),l.length=n->(l.Pairwise λi j=>BQ ops f i j=true)->(∀i∈l,i<ops.size)->listed.size=ops.size ->
   (∀k,k<ops.size->(listed.getD k true=false↔(k∈l\/k∈E)))->(∀e∈E,∀i∈l,FQ ops f e i=true/\Region.waitsFor .any ops i e=false/\i≠e)->Closed ops listed->C w->(∀k,bs k->k<w.heap.size) ->
   (∀(listed:Array Bool) (a:Act) (w:World),listed.size=ops.size->(∀k,k<ops.size->(listed.getD k true=false↔k∈E))->Closed ops listed->Q1 .normal a w->wpAny P .any ops Q m listed a w) ->
   WX P ops C N Q1 l bs a w->wpAny P .any ops Q (n+m) listed a w:=by
 intro n;induction n with
 | zero =>
  intro l listed bs a w hn _ _ hsz jC _ iQ _ _ mJ h;have hl:l=[]:=Y4 hn;subst hl;rw[Yp];exact mJ listed a w hsz (λk hk=>by rw[jC k hk];simp) iQ h
 | succ n ih =>
  intro l listed bs a w hn hp bV hsz jC hEn iQ hC jD mJ h;rw[Nat.add_right_comm];refine⟨λh0=>?_,λj hj=>?_⟩
  ·-- the first operation of the walk is ready
   match l,hn with
   | i::l,_ =>
    have hi:=bV i (ZO ..);have jy:ops[i]?=some ops[i]:=YA _;have hr:i∈Region.ready .any ops listed:=by
     refine Xk.2 ⟨(jC i hi).2 (.inl (ZO ..)),_,jy,λe he hb=>?_⟩;have hes:=Sl i _ jy e he hb;have hw:Region.waitsFor .any ops i e.on=true:=by
      unfold Region.waitsFor;rw[jy];exact Vx.2 ⟨e,he,by simp[hb]⟩
     have lu:e.on ∉ i::l:=by
      intro hm;rcases ZU.1 hm with hm|hm
      ·rw[hm,Sr i hi]at hw;cases hw
      ·have:=(Yd.1 hp).1 e.on hm;simp[BQ,hw]at this
     have adZ:e.on<listed.size:=by omega
     have hnE:e.on ∉ E:=λhm=>by
      have:=(hEn e.on hm i (ZO ..)).2.1;rw[hw]at this;cases this
     cases hg:listed.getD e.on false with
     | true=>rfl
     | false=>exact absurd ((jC e.on hes).1 (VH adZ hg)) (λh=>h.elim lu hnE)
    rw[h0]at hr;cases hr
  ·obtain⟨BO,oj,lX,hall⟩:=Xk.1 hj;have hjs:j<ops.size:=(ZP.1 lX).1;have uY:j∈l:=by
    rcases(jC j hjs).1 BO with h1|h1
    ·exact h1
    ·match l,hn with
     | i::l,_ =>
      have h2:=(hEn j h1 i (ZO ..)).1;have h3:=adY iQ f j i oj lX hall h2;have h4:=(jC i (bV i (ZO ..))).2 (.inl (ZO ..));rw[WS h4]at h3;cases h3
   obtain⟨s,t,rfl⟩:=Vw uY;have OY:s.length+t.length=n:=by simp at hn;omega
   have aai:∀i∈s,BQ ops f i j=true:=λi hi=>(YO.1 hp).2.2 i hi j (ZO ..);have JK:∀i∈s,i<ops.size:=λi hi=>bV i (ZV _ hi);have hno:∀i∈s,FQ ops f j i=false:=λi hi=>by
    cases d_:FQ ops f j i with
    | false=>rfl
    | true =>
     have h1:=adY iQ f j i oj lX hall d_;have h2:=(jC i (JK i hi)).2 (.inl (ZV _ hi));rw[WS h2]at h1;cases h1
   have hsp:∀i∈s,∀oi,ops[i]?=some oi->oi.apart ops oj=true/\(jW oj≠.act\/jW oi=.still):=λi hi oi hoi=>by
    have h1:=aai i hi;simp only[BQ,hno i hi,hoi,lX,Vt,Zu,Wo,ZF]at h1;exact h1.2
   have iP:∀i∈s,Free ops i j:=λi hi oi JG hoi ad4=>by
    obtain rfl:oj=JG:=Zy (lX.symm.trans ad4);exact(hsp i hi oi hoi).1
   have dI:j ∉ s++t:=by
    intro hm;rcases Zs.1 hm with hm|hm
    ·have:=aai j hm;simp[BQ]at this
    ·have:=(Yd.1 (YO.1 hp).2.1).1 j hm;simp[BQ]at this
   have ad5:j<listed.size:=by omega
   have next:∀bs' a' w',C w'->(∀k,bs' k->k<w'.heap.size)->WX P ops C N Q1 (s++t) bs' a' w'->wpAny P .any ops Q (n+m) (listed.setIfInBounds j true) a' w':=λbs' a' w' wI hb' h'=>by
    refine ih (s++t) _ bs' a' w' (by simp;omega) ?_ ?_ (by simpa using hsz) (λk hk=>?_) (λe he i hi=>hEn e he i (by rcases Zs.1 hi with h|h;exact ZV _ h;exact Ym _ (Ya _ h))) ?_ wI hb' mJ h'
    ·refine WZ ?_ hp;exact WB (WN j t) s
    ·intro i hi;exact bV i (by rcases Zs.1 hi with h|h;exact ZV _ h;exact Ym _ (Ya _ h))
    ·rw[ag8 ad5,jC k hk];constructor
     ·rintro⟨h0,h2⟩;rcases h0 with h1|h1
      ·rcases Zs.1 h1 with h1|h1
       ·exact .inl (ZV _ h1)
       ·rcases ZU.1 h1 with h1|h1
        ·exact absurd h1 h2
        ·exact .inl (Ym _ h1)
      ·exact .inr h1
     ·rintro(h1|h1)
      ·refine⟨.inl ?_,λe=>dI (e▸h1)⟩;rcases Zs.1 h1 with h1|h1
       ·exact ZV _ h1
       ·exact Ym _ (Ya _ h1)
      ·exact⟨.inr h1,λe=>(hEn k h1 j uY).2.2 e.symm⟩
    ·intro k ok aP hlk e he hb;by_cases hkj:j=k
     ·subst hkj;obtain rfl:ok=oj:=Zy (aP.symm.trans lX);exact Wk (hall e he hb)
     ·rw[getD_set_ne false hkj]at hlk;exact Wk (iQ k ok aP hlk e he hb)
   unfold wpOp;simp only[lX];by_cases hw:Region.wanted oj (yielded ops a.tmps)=true
   ·rw[ZE hw];left;cases hk:jW oj with
    | still =>
     obtain⟨a',bs',w',wI,e1,e2,h1⟩:=abP jG hG lX t s bs a w JK iP hC jD h;have h2:=h1 oj lX;unfold qX rM at h2;rw[ZE (by rw[e2];exact hw)]at h2;simp only[hk]at h2;obtain⟨v,h3,_⟩:=h2;have hy:qC P ops C oj v a:=.inl ⟨hw,λw1 dQ=>by have:=h3 w1 dQ;unfold MJ at this ⊢;rw[<-e1];exact this⟩;have h4:=abQ jG hG lX t s bs a w iP hC h (.inl hk) hy;refine adP (C:=C) (K:=λa' w'=>WX P ops C N Q1 (s++t) bs a' w'/\w'=w) hC (λa' w' wI h5=>next bs a' w' wI (by rw[h5.2];exact jD) h5.1) (.inl ⟨v,(hy.resolve_right λhh=>by rw[hh.1]at hw;cases hw).2,h4,rfl⟩)
    | act =>
     have h1:=ag6 jG lX hk t s bs a w JK iP (λi hi oi hoi=>((hsp i hi oi hoi).2).resolve_left (by simp[hk])) hC h hw;exact h1.wp λv w2 ⟨c1,c2,bs',c5,c6⟩=>next bs' _ w2 c1 (λk eH=>by rcases c5 k eH with h5|h5;(have:=jD k h5;omega);exact h5.2) c6
    | make =>
     obtain⟨a',bs',w',wI,e1,e2,h1⟩:=abP jG hG lX t s bs a w JK iP hC jD h;have h2:=h1 oj lX;unfold qX rM at h2;rw[ZE (by rw[e2];exact hw)]at h2;simp only[hk]at h2;obtain⟨mk,ob,h3,_⟩:=h2;have h4:=h3 w hC;rw[e1]at h4;have hB:=hG.base w hC;have h5:=ag4 jG lX hk hC rfl t s bs a w (w.alloc ob) iP h hw h4 (aH w ob) (XR w ob) hB (λhh=>by have:=jD _ hh;omega);unfold Oper.wp;rw[h4,Vf];exact next _ _ _ (hG.grow _ _ hC (aH w ob)) (λk eH=>by rcases eH with rfl|eH;simp;(have:=jD k eH;simp;omega)) h5
   ·rw[ZH hw];have hy:qC P ops C oj undef a:=.inr ⟨by simpa using hw,rfl⟩;exact next bs _ w hC jD (abQ jG hG lX t s bs a w iP hC h (.inr (by simpa using hw)) hy)
def ahX (ops:Array Oper) (f:Nat) (IG Ew:List Nat):Bool :=
 Region.noSelect ops&&Sj ops f IG&&Sj ops f Ew&&abT ops (IG++Ew)&&decide (IG.length+Ew.length=ops.size) &&
  Ew.all (λe=>IG.all λi=>FQ ops f e i&&!Region.waitsFor .any ops i e&&decide (i≠e))
def apl (P:Program) (ops:Array Oper) (Q:Exit->Act->World->Prop) (ord:List Nat) (a:Act) (w:World):Prop :=
 ∃(C:World->Prop) (N:Nat),Au C N/\C w/\WX P ops C N Q ord (λ_=>False) a w
theorem yh {id:Nat} {a:Act} {w:World} {l:List Oper} (f:Nat) (IG Ew:List Nat) (hm:P.follows .mixedOrders=true) (hB:ahX l.toArray f IG Ew=true)
  (hG:Au C N) (hC:C w.drew) (h:WX P l.toArray C N (λ_ a' w'=>apl P l.toArray Q Ew a' w') IG (λ_=>False) a w.drew):(Code.region id l.toArray true).wp P Q a w:=by
 simp only[ahX,Zu,ZF]at hB;obtain⟨⟨⟨⟨⟨jG,zk⟩,rH⟩,aaj⟩,hlen⟩,hE⟩:=hB;simp only[abT,Zu,Z7,ZF,Wa,ZW,Yh]at aaj;obtain⟨⟨h1,h2⟩,h3⟩:=aaj;simp only[Z7,Zu,ZF,Wa]at hE;have Sl:∀(j:Nat) (oj:Oper),l.toArray[j]?=some oj->∀e∈oj.after,Region.binds .any e=true->e.on<l.toArray.size:=λj oj hj e he hb=>by
  have h4:=XG.1 h3 oj (Va hj);have h5:=XG.1 h4 e he;simpa[hb]using h5
 have Sr:∀j,j<l.toArray.size->Region.waitsFor .any l.toArray j j=false:=λj hj=>(h1 j (h2 j hj)).2;refine Vz hm ?_;rw[<-hlen];refine apk Ew Ew.length (Xy jG) hG f Sl Sr IG.length IG _ (λ_=>False) a _ rfl (abS IG zk) (λi hi=>(h1 i (ZV _ hi)).1) (by simpa using hlen) (λk hk=>?_)
  (λe he i hi=>⟨(hE e he i hi).1.1,(hE e he i hi).1.2,(hE e he i hi).2⟩) (λj oj _ hl=>?_) hC (λk hk=>hk.elim) ?_ h
 ·refine⟨λ_=>by have:=h2 k hk;rcases Zs.1 this with h|h;exact .inl h;exact .inr h,λ_=>by rw[VH (by simpa[hlen]using hk) (Xc _ _)]⟩
 ·rw[Xc]at hl;cases hl
 ·rintro listed a' w' hsz jC iQ⟨C2,N2,hG2,Dw,hW2⟩;exact ag9 (Xy jG) hG2 f Sl Sr Ew.length Ew listed (λ_=>False) a' w' rfl (abS Ew rH) (λi hi=>(h1 i (Ym _ hi)).1) hsz jC iQ Dw (λk hk=>hk.elim) hW2
end
section
variable {P:Program} {C:World -> Prop} {N:Nat} {Q:Exit -> Act -> World -> Prop}
end
def J9 (left:Int) (w:World) (e:Ending) (w':World):Prop:=∃r:Int,e=.returned (.int .i64 r)/\-1<=r/\r<=left/\Below w.heap.size w w'
def wQ (ns:List Nd):Prop:=(∀d∈ns,d.name.size<=1048576)/\ns.length<=1048576
def apm (w:World) (x:Nd×Int) (b o:Nat):Prop :=
 w.cell? ⟨b,o,none⟩=some (.int .i64 x.1.kind)/\w.cell? ⟨b,o+1,none⟩=some (.int .i64 x.1.value)/\w.cell? ⟨b,o+2,none⟩=some (.string x.1.name)/\w.cell? ⟨b,o+3,none⟩=some (.int .i64 x.2)
def avF (w:World) (v:Value) (rds:Rd):Prop:=nD 4 v rds.length λi b o=>∃h:i<rds.length,apm w rds[i] b o
theorem aas {T:Nat->Prop} {w0 w1:World} {B:Nat} (h:aC T w0 w1) (hB:B<=w0.heap.size) (hT:∀k,T k->B<=k):Below B w0 w1 :=
 ⟨h.os,h.tape,h.output,h.size,λk hk=>h.block k (by omega) (λht=>by have:=hT k ht;omega)⟩
def avG (w wr:World) (B:Nat) (v:Value) (L:List Df) (k:Nat):Prop:=∃xs:List (Df×Value),xs.map Prod.fst=L.take k/\aoE wr B v xs/\Below w.heap.size w wr/\w.heap.size<=B/\B<=wr.heap.size
end Go.Proofs.YtkhpobekconobaaGreat
