/-
  Libraries without a program in sight: good ones, unique names, types of terms. Own work.
-/
import Derived.Test.YtikgblkfmpecfaaGreatDoorWE
import Derived.Test.YtikgblkfmpecfaaGreatDoorWC
import Derived.Test.YtikgblkfmpecfaaGreatDoorWA
import Derived.Tactics
import Derived.Maps.AppendAt
set_option linter.all false
set_option maxRecDepth 100000
set_option maxHeartbeats 8000000
namespace Go.Proofs.YtikgblkfmpecfaaGreatDoor
open Go.RowKit
def Uniq (L:List Df):Prop:=L.Pairwise λa b=>a.name≠b.name
theorem acR (L:List Df) (s:ByteArray) (h:Uniq L):oU L s=findD L s:=by
 unfold oU findD;induction L with
 | nil=>rfl
 | cons d r ih =>
  have h':=List.pairwise_cons.1 h
  rw[List.reverse_cons,List.find?_append,ih h'.2]
  by_cases hd:d.name=s
  ·have:(r.find? λd=>decide (d.name=s))=none:=by
    rw[List.find?_eq_none];intro x hx;simpa using λe=>h'.1 x hx (hd.trans e.symm)
   rw[this]
   simp[hd]
  ·simp[hd]
theorem Jj {L:List Df} (h:Uniq L) (n:Nd) (h1:¬(n.kind=15\/n.kind=16)):b_ L n=aO L n:=by
 unfold b_ jE;by_cases hk:n.kind=17
 ·rw[if_pos hk,acR L _ h];unfold aO;rw[if_pos hk];cases hf:findD L n.name with
  | none=>simp
  | some d=>by_cases hv:n.value=0<;>simp[hv]
 ·rw[if_neg hk,ab9 n hk (by omega) (by omega)];unfold aO;rw[if_neg hk,if_neg hk]
theorem O8 {f g:Nd->Option W2} (h:∀n,¬(n.kind=15\/n.kind=16)->f n=g n):∀(ns:List Nd) (st:List W2),bU f ns st=bU g ns st
 | [],st=>rfl
 | n::r,st=>by
  unfold bU;split
  ·split
   ·split
    ·split
     ·exact O8 h r _
     ·rfl
    ·rfl
   ·rfl
  ·rename_i hk
   rw[h n hk];split
   ·exact O8 h r _
   ·rfl
theorem acS {f g:Nd->Option W2} (h:∀n,¬(n.kind=15\/n.kind=16)->f n=g n) (ns:List Nd):aS f ns=aS g ns:=by
 unfold aS;rw[O8 h]
theorem Oo {L:List Df} (h:Uniq L) (ns:List Nd):aS (b_ L) ns=aS (aO L) ns:=acS (Jj h) ns
theorem O9 {leaf:Nd->Option W2} (h:∀n x,¬(n.kind=15\/n.kind=16)->leaf n=some x->Sm x):∀(ns:List Nd) (st st':List W2),(∀x∈st,Sm x)->bU leaf ns st=some st'->∀x∈st',Sm x
 | [],st,st',hs,he=>by
  obtain rfl:=Option.some.inj he;exact hs
 | n::r,st,st',hs,he=>by
  unfold bU at he;split at he
  ·split at he
   ·split at he
    ·rename_i b a st0
     split at he
     ·rename_i x hx
      refine O9 h r _ st' ?_ he;intro y hy;rcases List.mem_cons.1 hy with rfl|hy
      ·exact Oe (hs a (by simp)) (hs b (by simp)) hx
      ·exact hs y (by simp[hy])
     ·cases he
    ·cases he
   ·cases he
  ·rename_i hk
   split at he
   ·rename_i x hx
    refine O9 h r _ st' ?_ he;intro y hy;rcases List.mem_cons.1 hy with rfl|hy
    ·exact h n _ hk hx
    ·exact hs y hy
   ·cases he
theorem WE {leaf:Nd->Option W2} (h:∀n x,¬(n.kind=15\/n.kind=16)->leaf n=some x->Sm x) {ns:List Nd} {t:W2} (he:aS leaf ns=some t):Sm t:=by
 unfold aS at he;split at he
 ·split at he
  ·rename_i x hx
   obtain rfl:=Option.some.inj he;exact O9 h ns [] _ (by simp) hx _ (by simp)
  ·cases he
 ·cases he
def ql (L:List Df) (d:Df):Bool:=decide (aS (aO L) d.body=some (d.inn,d.out))&&nameB d.name&&(findD L d.name).isNone
def dJ:List Df->List Df->Bool
 | _,[]=>true
 | P,d::r=>ql P d&&dJ (P++[d]) r
def good (L:List Df):Bool:=decide (L.length<=12)&&dJ [] L
theorem AV:∀(P A B:List Df),dJ P (A++B)=(dJ P A&&dJ (P++A) B)
 | P,[],B=>by simp[dJ]
 | P,d::r,B=>by simp[dJ,AV (P++[d]) r B,Bool.and_assoc]
theorem O_:∀(P A:List Df),Uniq P->dJ P A=true->Uniq (P++A)
 | P,[],h,_=>by simpa using h
 | P,d::r,h,hg=>by
  simp only[dJ,ql,Bool.and_eq_true]at hg;have:=O_ (P++[d]) r ?_ hg.2
  ·simpa using this
  ·unfold Uniq;rw[List.pairwise_append];refine⟨h,by simp,?_⟩;intro a ha b hb e;simp at hb;subst hb;have hn:=hg.1.2;unfold findD at hn;rw[Option.isNone_iff_eq_none,List.find?_eq_none]at hn;exact absurd e (by simpa using hn a ha)
theorem WG:∀(P A:List Df),Uniq P->(∀d∈P,Sm (d.inn,d.out))->dJ P A=true->∀d∈P++A,Sm (d.inn,d.out)
 | P,[],_,h,_=>by simpa using h
 | P,d::r,hu,h,hg=>by
  have hu':=O_ P [d] hu (by simp only[dJ,Bool.and_eq_true]at hg ⊢;exact⟨hg.1,trivial⟩);simp only[dJ,ql,Bool.and_eq_true,decide_eq_true_eq]at hg;have:=WG (P++[d]) r hu' ?_ hg.2
  ·simpa using this
  ·intro x hx;rcases List.mem_append.1 hx with hx|hx
   ·exact h x hx
   ·simp at hx;subst hx;exact WE (λn x hk hx=>Ja h ((Jj hu n hk).trans hx)) hg.1.1.1
theorem FD {L:List Df} (h:dJ [] L=true):Uniq L:=by simpa using O_ [] L List.Pairwise.nil h
theorem vJ {L:List Df} (h:dJ [] L=true):∀d∈L,Sm (d.inn,d.out):=by simpa using WG [] L List.Pairwise.nil (by simp) h
theorem oO (name:ByteArray):∀(L:List Df) (k:Nat),(eY name L k=-1/\findD L name=none)\/∃(i:Nat) (hi:i<L.length),eY name L k=((k+i:Nat):Int)/\findD L name=some L[i]
 | [],k=>.inl ⟨rfl,rfl⟩
 | d::r,k=>by
  unfold eY findD;by_cases h:d.name=name
  ·rw[if_pos h];exact .inr ⟨0,by simp,by simp,by simp[h]⟩
  ·rw[if_neg h];rcases oO name r (k+1)with⟨h1,h2⟩|⟨i,hi,h1,h2⟩
   ·exact .inl ⟨h1,by simp[h];simpa[findD]using h2⟩
   ·refine .inr ⟨i+1,by simpa using hi,by rw[h1];congr 1;omega,?_⟩;rw[List.find?_cons_of_neg (by simpa using h)];simpa[findD]using h2
theorem acT (name:ByteArray) (L:List Df):(eY name L 0<0)↔findD L name=none:=by
 rcases oO name L 0 with⟨h1,h2⟩|⟨i,hi,h1,h2⟩
 ·rw[h1,h2];simp
 ·rw[h1,h2];simp
def cZ (L:List Df):Option (List Df):=if good L then some L else none
def jG (L:List Df) (d:Df):Option (List Df):=if good L then cZ (L++[d])else none
def iO (L:List Df) (s:ByteArray):Option (List Df):=if good L=true/\0<=eY s L 0 then cZ (L.eraseIdx (eY s L 0).toNat)else none
def qU (a b:ByteArray) (n:Nd):Nd:=if n.kind=17/\n.name=a then⟨n.kind,n.value,b⟩else n
def ig (a b:ByteArray) (d:Df):Df:=⟨if d.name=a then b else d.name,d.inn,d.out,d.body.map (qU a b)⟩
def iF (L:List Df) (a b:ByteArray):Option (List Df):=if good L=true/\0<=eY a L 0 then cZ (L.map (ig a b))else none
def kE (L:List Df) (e:En):Df:=⟨e.name,((aS (aO L) e.body).getD (0,0)).1,((aS (aO L) e.body).getD (0,0)).2,e.body⟩
def qm (e:En):Bool:=(decide (e.kind=3) || decide (e.to=ByteArray.empty))&&(decide (e.kind=1) || decide (e.body=[]))
def aJ (L:List Df) (e:En):Option (List Df) :=
 if good L=true/\qm e=true then
  (if e.kind=1 then jG L (kE L e)else if e.kind=2 then iO L e.name else if e.kind=3 then iF L e.name e.to else none)
 else none
theorem Pg {L:List Df} {d:Df} (hg:good L=true) (h:aS (aO L) d.body≠some (d.inn,d.out)):good (L++[d])=false:=by
 simp only[good,Bool.and_eq_true,decide_eq_true_eq]at hg;unfold good;rw[AV,hg.2];simp[dJ,ql,h]
theorem acU {L:List Df} {e:En} (x:W2) (hx:∀t,aS (aO L) e.body=some t->x=t):jG L (kE L e)=jG L ⟨e.name,x.1,x.2,e.body⟩:=by
 unfold jG;by_cases hg:good L=true
 ·rw[if_pos hg,if_pos hg];cases ht:aS (aO L) e.body with
  | some t=>obtain rfl:=hx t ht;simp[kE,ht]
  | none =>
   unfold cZ
   rw[Pg hg (by simp[kE,ht]),Pg hg (by simp[ht])]
   simp
 ·rw[if_neg hg,if_neg hg]
theorem qV {s:ByteArray} (h:nameB s=true):s.size<=8:=by
 unfold nameB jq at h;split at h
 ·omega
 ·simp at h
theorem Am {f:Nd->Option W2} {ns:List Nd} {t:W2} (h:aS f ns=some t):ns.length<=400:=by
 unfold aS at h;split at h
 ·omega
 ·cases h
theorem JC {L:List Df} (h8:∀d∈L,d.name.size<=8):∀(ns:List Nd) (st st':List W2),bU (aO L) ns st=some st'->∀n∈ns,n.name.size<=8
 | [],_,_,_,n,hn=>by simp at hn
 | m::r,st,st',he,n,hn=>by
  unfold bU at he;split at he
  ·split at he
   ·rename_i hvn
    split at he
    ·split at he
     ·rcases List.mem_cons.1 hn with rfl|hn
      ·rw[hvn.2];decide
      ·exact JC h8 r _ st' he n hn
     ·cases he
    ·cases he
   ·cases he
  ·split at he
   ·rename_i x hx
    rcases List.mem_cons.1 hn with rfl|hn
    ·unfold aO at hx;split at hx
     ·split at hx
      ·cases hf:findD L n.name with
       | none=>rw[hf]at hx;cases hx
       | some d =>
        unfold findD at hf
        have h1:=List.mem_of_find?_eq_some hf
        have h2:=List.find?_some hf
        simp only[decide_eq_true_eq]at h2
        rw[<-h2];exact h8 d h1
      ·cases hx
     ·split at hx
      ·rename_i hl
       simp only[gB,Bool.and_eq_true,decide_eq_true_eq]at hl;rw[hl.1.1.1];decide
      ·cases hx
    ·exact JC h8 r _ st' he n hn
   ·cases he
def Ph (L:List Df):Prop:=∀d∈L,d.name.size<=8/\d.body.length<=400/\∀n∈d.body,n.name.size<=8
theorem Ol {L:List Df} (h8:∀d∈L,d.name.size<=8) {ns:List Nd} {t:W2} (h:aS (aO L) ns=some t):∀n∈ns,n.name.size<=8:=by
 unfold aS at h;split at h
 ·split at h
  ·rename_i x hx
   exact JC h8 ns _ _ hx
  ·cases h
 ·cases h
theorem WH:∀(P A:List Df),Ph P->dJ P A=true->Ph (P++A)
 | P,[],h,_=>by simpa using h
 | P,d::r,h,hg=>by
  simp only[dJ,ql,Bool.and_eq_true,decide_eq_true_eq]at hg;have:=WH (P++[d]) r ?_ hg.2
  ·simpa using this
  ·intro x hx;rcases List.mem_append.1 hx with hx|hx
   ·exact h x hx
   ·simp at hx;subst hx;exact⟨qV hg.1.1.2,Am hg.1.1.1,Ol (λd hd=>(h d hd).1) hg.1.1.1⟩
theorem yE {L:List Df} (h:good L=true):Ph L:=by
 simp only[good,Bool.and_eq_true]at h;simpa using WH [] L (by intro d hd;simp at hd) h.2
theorem tK {L:List Df} (h:good L=true):L.length<=12:=by simp[good]at h;exact h.1
theorem zi {L R:List Df} (h:cZ L=some R):good R=true/\R=L:=by
 unfold cZ at h;split at h
 ·rename_i hg;obtain rfl:=Option.some.inj h;exact⟨hg,rfl⟩
 ·cases h
theorem acV {L R:List Df} {d:Df} (h:jG L d=some R):good R=true:=by
 unfold jG at h;split at h;exact(zi h).1;cases h
theorem acW {L R:List Df} {s:ByteArray} (h:iO L s=some R):good R=true:=by
 unfold iO at h;split at h;exact(zi h).1;cases h
theorem acX {L R:List Df} {a b:ByteArray} (h:iF L a b=some R):good R=true:=by
 unfold iF at h;split at h;exact(zi h).1;cases h
theorem xE {L R:List Df} {e:En} (h:aJ L e=some R):good R=true:=by
 unfold aJ at h;split at h
 ·split at h
  ·exact acV h
  ·split at h
   ·exact acW h
   ·split at h
    ·exact acX h
    ·cases h
 ·cases h
theorem WI {ys:List (Df×Value)} {j:Nat} (hj:j<ys.length) (d:Df) (h:ys.Pairwise λx y=>Apart x.2 y.2):(ys.set j (d,ys[j].2)).Pairwise λx y=>Apart x.2 y.2:=by
 have e:(ys.set j (d,ys[j].2)).map Prod.snd=ys.map Prod.snd:=by
  apply List.ext_getElem (by simp);intro i h1 h2;simp only[List.getElem_map];by_cases hij:j=i
  ·subst hij;rw[List.getElem_set_self]
  ·rw[List.getElem_set_ne hij]
 have h6:(ys.map Prod.snd).Pairwise Apart:=List.pairwise_map.2 h;rw[<-e]at h6;exact List.pairwise_map.1 h6
theorem bP.setName {w:World} {B g n cap:Nat} {ys:List (Df×Value)} {j:Nat} (h:bP w B (.slice (some ⟨g,0,none⟩) n cap) ys) (hn:ys.length=n) (hj:j<ys.length) (s:ByteArray) :
  bP (w.setCell ⟨g,j*4,none⟩ (.string s)) B (.slice (some ⟨g,0,none⟩) n cap) (ys.set j (⟨s,ys[j].1.inn,ys[j].1.out,ys[j].1.body⟩,ys[j].2)):=by
 subst hn;have hne:∀x∈ys,x.2.ownBlock≠some g:=λx hx e=>oG (h.2.1 x hx) h.1 (by decide) g e rfl;have r1:=TP mF h.1 j 0 _ hj (by omega) rfl (.string s) (⟨s,ys[j].1.inn,ys[j].1.out,ys[j].1.body⟩,ys[j].2) rfl;refine⟨by rw[List.length_set];exact r1,?_,WI hj _ h.2.2⟩;intro x hx;obtain⟨i,hi,rfl⟩:=List.getElem_of_mem hx;have hi':i<ys.length:=by simpa using hi
 by_cases hij:j=i
 ·subst hij;rw[List.getElem_set_self];exact nG (h.2.1 ys[j] (List.getElem_mem _)) _ _ (hne _ (List.getElem_mem _))
 ·rw[List.getElem_set_ne hij];exact nG (h.2.1 ys[i] (List.getElem_mem _)) _ _ (hne _ (List.getElem_mem _))
theorem bP.setNode {w:World} {B g n cap gb m cb:Nat} {ys:List (Df×Value)} {j k:Nat} (h:bP w B (.slice (some ⟨g,0,none⟩) n cap) ys) (hj:j<ys.length) (hv:ys[j].2=.slice (some ⟨gb,0,none⟩) m cb) (hk:k<ys[j].1.body.length) (s:ByteArray) :
  bP (w.setCell ⟨gb,k*3+2,none⟩ (.string s)) B (.slice (some ⟨g,0,none⟩) n cap) (ys.set j (⟨ys[j].1.name,ys[j].1.inn,ys[j].1.out,ys[j].1.body.set k ⟨ys[j].1.body[k].kind,ys[j].1.body[k].value,s⟩⟩,ys[j].2)):=by
 have hne:∀x∈ys,x.2.ownBlock≠some g:=λx hx e=>oG (h.2.1 x hx) h.1 (by decide) g e rfl;have hgb:ys[j].2.ownBlock=some gb:=by rw[hv];rfl
 have hgg:(Value.slice (some ⟨g,0,none⟩) n cap).ownBlock≠some gb:=by
  intro e;have h1:=hne ys[j] (List.getElem_mem _);rw[hgb]at h1;exact h1 (by rw[<-e];rfl)
 have hb:=h.2.1 ys[j] (List.getElem_mem _);have hbl:m=ys[j].1.body.length:=by
  obtain⟨a,c,e⟩:=hb.slice;rw[hv]at e;simp only[Value.slice.injEq]at e;exact e.2.1
 refine⟨?_,?_,WI hj _ h.2.2⟩
 ·have r1:=nG h.1 ⟨gb,k*3+2,none⟩ (.string s) hgg;rw[List.length_set];have e:(ys.set j (⟨ys[j].1.name,ys[j].1.inn,ys[j].1.out,ys[j].1.body.set k ⟨ys[j].1.body[k].kind,ys[j].1.body[k].value,s⟩⟩,ys[j].2)).flatMap bM=ys.flatMap bM:=by
   have hm:(ys.set j (⟨ys[j].1.name,ys[j].1.inn,ys[j].1.out,ys[j].1.body.set k ⟨ys[j].1.body[k].kind,ys[j].1.body[k].value,s⟩⟩,ys[j].2)).map bM=ys.map bM:=by
    apply List.ext_getElem (by simp);intro i h1 h2;simp only[List.getElem_map];by_cases hij:j=i
    ·subst hij;rw[List.getElem_set_self];rfl
    ·rw[List.getElem_set_ne hij]
   rw[List.flatMap_def,List.flatMap_def,hm]
  rw[e];exact r1
 ·intro x hx;obtain⟨i,hi,rfl⟩:=List.getElem_of_mem hx;have hi':i<ys.length:=by simpa using hi
  by_cases hij:j=i
  ·subst hij;rw[List.getElem_set_self];have hb':=hb;unfold au at hb';rw[hv]at hb';have r2:=TP (xs:=ys[j].1.body) rM (by rw[<-hbl]at hb';exact hb') k 2 _ hk (by omega) rfl (.string s) ⟨ys[j].1.body[k].kind,ys[j].1.body[k].value,s⟩ (by simp[d_]);show au _ B ys[j].2 _;rw[hv];unfold au;rw[List.length_set,<-hbl];exact r2
  ·rw[List.getElem_set_ne hij];refine nG (h.2.1 ys[i] (List.getElem_mem _)) _ _ ?_;have hp:=List.pairwise_iff_getElem.1 h.2.2;intro e;rcases Nat.lt_or_gt_of_ne hij with hlt|hlt
   ·exact hp j i hj hi' hlt gb hgb e
   ·exact hp i j hi' hj hlt gb e hgb
def iZ (a b:ByteArray) (xs:List (Df×Value)) (i:Nat):List (Df×Value):=xs.mapIdx λj x=>if j<i then(ig a b x.1,x.2)else x
def jf (a b:ByteArray) (ns:List Nd) (k:Nat):List Nd:=ns.mapIdx λj n=>if j<k then qU a b n else n
def dP (a b:ByteArray) (xs:List (Df×Value)) (i k:Nat) (h:i<xs.length):List (Df×Value) :=
 (iZ a b xs i).set i (⟨if xs[i].1.name=a then b else xs[i].1.name,xs[i].1.inn,xs[i].1.out,jf a b xs[i].1.body k⟩,xs[i].2)
section
variable {a b:ByteArray}
theorem qo (xs:List (Df×Value)) (i:Nat):(iZ a b xs i).length=xs.length:=by simp[iZ]
theorem AX (ns:List Nd) (k:Nat):(jf a b ns k).length=ns.length:=by simp[jf]
theorem oV (xs:List (Df×Value)) (i k:Nat) (h:i<xs.length):(dP a b xs i k h).length=xs.length:=by simp[dP,iZ]
theorem WJ (xs:List (Df×Value)) (i j:Nat) (h:j<(iZ a b xs i).length):(iZ a b xs i)[j]=if j<i then(ig a b (xs[j]'(by rw[<-qo xs i];exact h)).1,(xs[j]'(by rw[<-qo xs i];exact h)).2)else xs[j]'(by rw[<-qo xs i];exact h):=by simp[iZ]
theorem WL (xs:List (Df×Value)):iZ a b xs 0=xs:=by
 apply List.ext_getElem (by simp[iZ]);intro j h1 h2;simp[iZ]
theorem WM (ns:List Nd):jf a b ns 0=ns:=by
 apply List.ext_getElem (by simp[jf]);intro j h1 h2;simp[jf]
theorem acY (ns:List Nd):jf a b ns ns.length=ns.map (qU a b):=by
 apply List.ext_getElem (by simp[jf]);intro j h1 h2;have:j<ns.length:=by simpa[jf]using h1
 simp[jf,this]
theorem JD (xs:List (Df×Value)):(iZ a b xs xs.length).map Prod.fst=(xs.map Prod.fst).map (ig a b):=by
 apply List.ext_getElem (by simp[iZ]);intro j h1 h2;have:j<xs.length:=by simpa[iZ]using h1
 simp[iZ,this]
theorem AY (xs:List (Df×Value)) (i:Nat) (h:i<xs.length):(iZ a b xs i)[i]'(by rw[qo];exact h)=xs[i]:=by simp[iZ]
theorem WO (ns:List Nd) (k:Nat) (h:k<ns.length):(jf a b ns k)[k]'(by rw[AX];exact h)=ns[k]:=by simp[jf]
theorem vU (xs:List (Df×Value)) (i k:Nat) (h:i<xs.length):(dP a b xs i k h)[i]'(by rw[oV];exact h)=(⟨if xs[i].1.name=a then b else xs[i].1.name,xs[i].1.inn,xs[i].1.out,jf a b xs[i].1.body k⟩,xs[i].2):=by
 simp[dP]
theorem WQ (ns:List Nd) (k:Nat) (h:k<ns.length):(jf a b ns k).set k (qU a b ns[k])=jf a b ns (k+1):=by
 apply List.ext_getElem (by simp[jf]);intro j h1 h2;by_cases hj:k=j
 ·subst hj;simp[jf]
 ·rw[List.getElem_set_ne hj];simp only[jf,List.getElem_mapIdx];by_cases hji:j<k
  ·rw[if_pos hji,if_pos (by omega)]
  ·rw[if_neg hji,if_neg (by omega)]
theorem acZ (ns:List Nd) (k:Nat) (h:k<ns.length) (hr:qU a b ns[k]=ns[k]):jf a b ns (k+1)=jf a b ns k:=by
 rw[<-WQ ns k h,hr];apply List.ext_getElem (by simp[jf]);intro j h1 h2;by_cases hj:k=j
 ·subst hj;simp[jf]
 ·rw[List.getElem_set_ne hj]
theorem JE (xs:List (Df×Value)) (i:Nat) (h:i<xs.length):dP a b xs i xs[i].1.body.length h=iZ a b xs (i+1):=by
 unfold dP;rw[acY];apply List.ext_getElem (by simp[iZ]);intro j h1 h2;by_cases hj:i=j
 ·subst hj;simp[iZ,ig]
 ·rw[List.getElem_set_ne hj,WJ,WJ];by_cases hji:j<i
  ·simp[hji,show j<i+1 by omega]
  ·simp[hji,show ¬j<i+1 by omega]
theorem WR (xs:List (Df×Value)) (i:Nat) (h:i<xs.length) (hn:xs[i].1.name≠a):dP a b xs i 0 h=iZ a b xs i:=by
 unfold dP;rw[if_neg hn,WM];apply List.ext_getElem (by simp);intro j h1 h2;by_cases hj:i=j
 ·subst hj;rw[List.getElem_set_self,AY xs i h]
 ·rw[List.getElem_set_ne hj]
theorem WS (xs:List (Df×Value)) (i:Nat) (h:i<xs.length) (hn:xs[i].1.name=a):dP a b xs i 0 h=(iZ a b xs i).set i (⟨b,xs[i].1.inn,xs[i].1.out,xs[i].1.body⟩,xs[i].2):=by
 unfold dP;rw[if_pos hn,WM]
theorem JF (xs:List (Df×Value)) (i k:Nat) (h:i<xs.length) (hk:k<xs[i].1.body.length) (hr:qU a b xs[i].1.body[k]=xs[i].1.body[k]):dP a b xs i (k+1) h=dP a b xs i k h:=by
 unfold dP;rw[acZ _ k hk hr]
theorem JG {w:World} {B i k:Nat} {v:Value} {xs:List (Df×Value)} {gb m cb:Nat} (h:i<xs.length) (hr:bP w B v (dP a b xs i k h)) (hv:xs[i].2=.slice (some ⟨gb,0,none⟩) m cb) (hk:k<xs[i].1.body.length) :
  w.cell? ⟨gb,k*3,none⟩=some (.int .i64 xs[i].1.body[k].kind)/\w.cell? ⟨gb,k*3+1,none⟩=some (.int .i64 xs[i].1.body[k].value)/\w.cell? ⟨gb,k*3+2,none⟩=some (.string xs[i].1.body[k].name)/\w.frozen? ⟨gb,k*3+2,none⟩=false/\gb<w.heap.size/\B<=gb:=by
 have h1:=hr.2.1 _ (List.getElem_mem (by rw[oV];exact h:i<(dP a b xs i k h).length));rw[vU]at h1;simp only[hv]at h1;obtain⟨a',c',e⟩:=h1.slice;simp only[Value.slice.injEq]at e;have hm:m=(jf a b xs[i].1.body k).length:=e.2.1;unfold au at h1;rw[<-hm]at h1;have hk':k<(jf a b xs[i].1.body k).length:=by rw[AX];exact hk
 have c0:=gQ rM h1 k 0 hk' (by omega);have c1:=gQ rM h1 k 1 hk' (by omega);have c2:=gQ rM h1 k 2 hk' (by omega);rw[WO _ k hk]at c0 c1 c2;exact⟨c0,c1,c2,h1.frozenAt _,(World.ownsRow.lt h1 gb rfl).2,(World.ownsRow.lt h1 gb rfl).1⟩
theorem ac0 (xs:List (Df×Value)) (i k:Nat) (h:i<xs.length) (d:Df) (hd:d=⟨if xs[i].1.name=a then b else xs[i].1.name,xs[i].1.inn,xs[i].1.out,jf a b xs[i].1.body (k+1)⟩) :
  (dP a b xs i k h).set i (d,xs[i].2)=dP a b xs i (k+1) h:=by
 subst hd;simp[dP]
theorem JH {w:World} {B g n cap i k:Nat} {xs:List (Df×Value)} {gb m cb:Nat} (h:i<xs.length) (hr:bP w B (.slice (some ⟨g,0,none⟩) n cap) (dP a b xs i k h)) (hv:xs[i].2=.slice (some ⟨gb,0,none⟩) m cb) (hk:k<xs[i].1.body.length)
  (hn:xs[i].1.body[k].kind=17/\xs[i].1.body[k].name=a):bP (w.setCell ⟨gb,k*3+2,none⟩ (.string b)) B (.slice (some ⟨g,0,none⟩) n cap) (dP a b xs i (k+1) h):=by
 have hj:i<(dP a b xs i k h).length:=by rw[oV];exact h
 have hg:=vU (a:=a) (b:=b) xs i k h;have hk':k<(dP a b xs i k h)[i].1.body.length:=by rw[hg,AX];exact hk
 have h1:=hr.setNode hj (by rw[hg];exact hv) hk' b;have hgk:(dP a b xs i k h)[i].1.body[k]=xs[i].1.body[k]:=by
  have:(dP a b xs i k h)[i].1.body=jf a b xs[i].1.body k:=by rw[hg]
  simp only[this];exact WO _ k hk
 have e:(dP a b xs i k h).set i (⟨(dP a b xs i k h)[i].1.name,(dP a b xs i k h)[i].1.inn,(dP a b xs i k h)[i].1.out,(dP a b xs i k h)[i].1.body.set k ⟨(dP a b xs i k h)[i].1.body[k].kind,(dP a b xs i k h)[i].1.body[k].value,b⟩⟩,(dP a b xs i k h)[i].2)=dP a b xs i (k+1) h:=by
  rw[hgk];have e2:(dP a b xs i k h)[i].2=xs[i].2:=by rw[hg]
  rw[e2];refine ac0 xs i k h _ ?_;have hb:qU a b xs[i].1.body[k]=⟨xs[i].1.body[k].kind,xs[i].1.body[k].value,b⟩:=by unfold qU;rw[if_pos hn]
  rw[hg,<-WQ _ k hk,hb]
 rw[e]at h1;exact h1
end
def Chain:List (Nat×W2)->List W2->Prop
 | X,[]=>X=[]
 | X,t::st=>∃Y f,X=Y++[(f,t)]/\f<=Y.length/\Chain (Y.take f) st
theorem WT {X:List (Nat×W2)} {st:List W2} (h:Chain X st) (t:W2):Chain (X++[(X.length,t)]) (t::st) :=
 ⟨X,X.length,rfl,Nat.le_refl _,by rw[List.take_length];exact h⟩
theorem WU {X:List (Nat×W2)} {a b:W2} {st:List W2} (h:Chain X (b::a::st)) :
  ∃f g:Nat,X[X.length-1]?=some (f,b)/\1<=f/\f<X.length/\X[f-1]?=some (g,a)/\g<f/\∀t,Chain (X++[(g,t)]) (t::st):=by
 obtain⟨Y,f,rfl,hf,Z,g,hZ,hg,hc⟩:=h;have hl:=congrArg List.length hZ;simp only[List.length_take,List.length_append,List.length_cons,List.length_nil]at hl;have hfl:f=Z.length+1:=by omega
 subst hfl;refine⟨Z.length+1,g,?_,by omega,by simp;omega,?_,by omega,?_⟩
 ·simp
 ·rw[Nat.add_sub_cancel,List.getElem?_append_left (by omega)];have h2:=congrArg (λl=>l[Z.length]?) hZ;simp only[List.getElem?_take]at h2;rw[if_pos (by omega)]at h2;simpa using h2
 ·intro t;refine⟨_,g,rfl,by simp;omega,?_⟩;have:List.take g (Y++[(Z.length+1,b)])=List.take g Z:=by
   rw[List.take_append_of_le_length (by omega)];have h3:=congrArg (List.take g) hZ;rw[List.take_take,Nat.min_eq_left (by omega),List.take_append_of_le_length hg]at h3;exact h3
  rw[this];exact hc
theorem Pj {X:List (Nat×W2)} {b:W2} (h:Chain X [b]):1<=X.length/\X[X.length-1]?=some (0,b):=by
 obtain⟨Y,f,rfl,hf,hc⟩:=h;have hc':Y.take f=[]:=hc;have:=congrArg List.length hc';simp only[List.length_take,List.length_nil]at this;obtain rfl:f=0:=by omega
 exact⟨by simp,by simp⟩
theorem chain_nil {X:List (Nat×W2)} (h:Chain X []):X=[]:=h
def dw (x:Int):List Value:=[.int .i64 x]
theorem JI (x:Int):(dw x).length=1:=rfl
def Rw (w:World) (B:Nat) (v:Value) (xs:List Int):Prop:=w.ownsRow B 3 1 v xs.length (xs.flatMap dw)
theorem Rw.keep {w w':World} {B:Nat} {v:Value} {xs:List Int} (hb:Below w.heap.size w w') (h:Rw w B v xs):Rw w' B v xs:=bW hb h
theorem Rw.grown {w w':World} {B:Nat} {v:Value} {xs:List Int} {row:Option Nat} (h:Rw w B v xs) (hg:w.grownBy w' row) (hr:∀k,v.ownBlock=some k->row≠some k):Rw w' B v xs:=by
 refine⟨h.1,?_⟩;rcases h.2 with hn|⟨g,cap,cur,rfl,hbb,hgg,rest⟩
 ·exact .inl hn
 ·exact .inr ⟨g,cap,cur,rfl,hbb,(hg.block g (Array.getElem?_eq_some_iff.1 hgg).1 (λe=>hr g rfl e.symm)).trans hgg,rest⟩
theorem Rw.other {w:World} {B:Nat} {v:Value} {xs:List Int} (h:Rw w B v xs) (a:Addr) (u:Value) (ha:a.block<B):Rw (w.setCell a u) B v xs :=
 nG h a u (λe=>by have:=(World.ownsRow.lt h _ e).1;omega)
theorem Rw.cell {w:World} {B g cap n:Nat} {xs:List Int} (h:Rw w B (.slice (some ⟨g,0,none⟩) n cap) xs) (i:Nat) (hi:i<xs.length):w.cell? ⟨g,i,none⟩=some (.int .i64 xs[i]):=by
 have hn:n=xs.length:=by
  rcases h.2 with⟨h',_⟩|⟨g',cap',cur,h',_⟩
  ·simp at h'
  ·simp only[Value.slice.injEq]at h';exact h'.2.1
 subst hn;have:=gQ JI h i 0 hi (by omega);simpa[dw]using this
structure kF (w:World) (B xb:Nat) (v0 v1 v2:Value) (lU xs1 xs2:List Int):Prop where
 lt:xb<B
 bz:xb<w.heap.size
 x0:w.cell? ⟨xb,0,none⟩=some v0
 x1:w.cell? ⟨xb,1,none⟩=some v1
 x2:w.cell? ⟨xb,2,none⟩=some v2
 fx:∀j,w.frozen? ⟨xb,j,none⟩=false
 r0:Rw w B v0 lU
 r1:Rw w B v1 xs1
 r2:Rw w B v2 xs2
 a01:Apart v0 v1
 a02:Apart v0 v2
 a12:Apart v1 v2
theorem Apart.symm {a b:Value} (h:Apart a b):Apart b a:=λk hk hk'=>h k hk' hk
theorem kF.keep {w w':World} {B xb:Nat} {v0 v1 v2:Value} {lU xs1 xs2:List Int} (h:kF w B xb v0 v1 v2 lU xs1 xs2) (hb:Below w.heap.size w w'):kF w' B xb v0 v1 v2 lU xs1 xs2:=by
 obtain⟨lt,bz,x0,x1,x2,fx,r0,r1,r2,a1,a2,a3⟩:=h;exact⟨lt,Nat.lt_of_lt_of_le bz hb.size,ak hb x0,ak hb x1,ak hb x2,λj=>(hb.frozen (p:=⟨xb,j,none⟩) bz).trans (fx j),r0.keep hb,r1.keep hb,r2.keep hb,a1,a2,a3⟩
theorem qp {w:World} {B:Nat} {v v' u:Value} {xs:List Int} (h:Apart v u) (hu:Rw w B u xs) (hv:v'.ownBlock=v.ownBlock\/v'.ownBlock=some w.heap.size):Apart v' u:=by
 intro k hk hk';rcases hv with e|e
 ·exact h k (e▸hk) hk'
 ·rw[e]at hk;obtain rfl:=Option.some.inj hk;have:=(World.ownsRow.lt hu _ hk').2;omega
theorem DV {w w':World} {row:Option Nat} (hg:w.grownBy w' row) {b o:Nat} (hb:b<w.heap.size) (hr:row≠some b):w'.cell? ⟨b,o,none⟩=w.cell? ⟨b,o,none⟩/\w'.frozen? ⟨b,o,none⟩=w.frozen? ⟨b,o,none⟩ :=
 have e:=hg.block b hb (λe=>hr e.symm)
 ⟨World.cell?_of_block (w:=w) e,World.frozen?_of_block (w:=w) e⟩
theorem row_ne {w:World} {B xb:Nat} {v:Value} {xs:List Int} (h:Rw w B v xs) (hx:xb<B):v.ownBlock≠some xb:=λe=>by have:=(World.ownsRow.lt h _ e).1;omega
section
variable {w w':World} {B xb:Nat} {v0 v1 v2 v':Value} {lU xs1 xs2:List Int} {f:Int}
theorem kF.app0 (h:kF w B xb v0 v1 v2 lU xs1 xs2) (hg:w.grownBy w' v0.ownBlock) (hr:Rw w' B v' (lU++[f])) (ho:v'.ownBlock=v0.ownBlock\/v'.ownBlock=some w.heap.size) :
  kF (w'.setCell ⟨xb,0,none⟩ v') B xb v' v1 v2 (lU++[f]) xs1 xs2:=by
 obtain⟨lt,bz,x0,x1,x2,fx,r0,r1,r2,a1,a2,a3⟩:=h;have hn:=row_ne r0 lt;have c:=λo=>DV hg (o:=o) bz hn;have hz:xb<w'.heap.size:=Nat.lt_of_lt_of_le bz hg.size;have e0:=(c 0).1.trans x0;refine⟨lt,by simpa using hz,?_,?_,?_,?_,hr.other _ _ lt,(r1.grown hg λk hk e=>a1 k e hk).other _ _ lt,(r2.grown hg λk hk e=>a2 k e hk).other _ _ lt,qp a1 r1 ho,qp a2 r2 ho,a3⟩
 ·simp[go_sem,e0]
 ·simp[go_sem,(c 1).1,x1]
 ·simp[go_sem,(c 2).1,x2]
 ·intro j;simp[go_sem,(c j).2,fx]
theorem kF.app1 (h:kF w B xb v0 v1 v2 lU xs1 xs2) (hg:w.grownBy w' v1.ownBlock) (hr:Rw w' B v' (xs1++[f])) (ho:v'.ownBlock=v1.ownBlock\/v'.ownBlock=some w.heap.size) :
  kF (w'.setCell ⟨xb,1,none⟩ v') B xb v0 v' v2 lU (xs1++[f]) xs2:=by
 obtain⟨lt,bz,x0,x1,x2,fx,r0,r1,r2,a1,a2,a3⟩:=h;have hn:=row_ne r1 lt;have c:=λo=>DV hg (o:=o) bz hn;have hz:xb<w'.heap.size:=Nat.lt_of_lt_of_le bz hg.size;have e1:=(c 1).1.trans x1;refine⟨lt,by simpa using hz,?_,?_,?_,?_,(r0.grown hg λk hk e=>a1 k hk e).other _ _ lt,hr.other _ _ lt,(r2.grown hg λk hk e=>a3 k e hk).other _ _ lt,(qp a1.symm r0 ho).symm,a2,qp a3 r2 ho⟩
 ·simp[go_sem,(c 0).1,x0]
 ·simp[go_sem,e1]
 ·simp[go_sem,(c 2).1,x2]
 ·intro j;simp[go_sem,(c j).2,fx]
theorem kF.JK (h:kF w B xb v0 v1 v2 lU xs1 xs2) (hg:w.grownBy w' v2.ownBlock) (hr:Rw w' B v' (xs2++[f])) (ho:v'.ownBlock=v2.ownBlock\/v'.ownBlock=some w.heap.size) :
  kF (w'.setCell ⟨xb,2,none⟩ v') B xb v0 v1 v' lU xs1 (xs2++[f]):=by
 obtain⟨lt,bz,x0,x1,x2,fx,r0,r1,r2,a1,a2,a3⟩:=h;have hn:=row_ne r2 lt;have c:=λo=>DV hg (o:=o) bz hn;have hz:xb<w'.heap.size:=Nat.lt_of_lt_of_le bz hg.size;have e2:=(c 2).1.trans x2;refine⟨lt,by simpa using hz,?_,?_,?_,?_,(r0.grown hg λk hk e=>a2 k hk e).other _ _ lt,(r1.grown hg λk hk e=>a3 k hk e).other _ _ lt,hr.other _ _ lt,a1,(qp a2.symm r0 ho).symm,(qp a3.symm r1 ho).symm⟩
 ·simp[go_sem,(c 0).1,x0]
 ·simp[go_sem,(c 1).1,x1]
 ·simp[go_sem,e2]
 ·intro j;simp[go_sem,(c j).2,fx]
end
theorem WV:(Tryz.prog.info? 3).map (λi=>(i.zero,i.size,i.bytes))=some (some (.int .i64 0),1,8):=by kernel_rfl
theorem vV {ops:Array Oper} {rest:List Oper} {o:Oper} {a:Act} {Q:Exit->Act->World->Prop} {w:World} (hgd:o.guard=none) (s x:Operand)
  (ho:o.op=.call { callee:=.builtin .append,args:=#[s,x],argTypes:=#[130,130] })
  (B:Nat) (v:Value) (xs:List Int) (f:Int) (tt:TypeId) (g:Nat) (hg:g=w.heap.size) (hs:a.eval s=v) (hx:a.eval x=.slice (some ⟨g,0,none⟩) 1 1) (hown:Rw w B v xs) (hB:B<=w.heap.size) (hl:xs.length<=1048576)
  (h:∀v' w',Rw w' B v' (xs++[f])->(w.alloc (.cells #[.int .i64 f] tt)).grownBy w' v.ownBlock->(v'.ownBlock=v.ownBlock\/v'.ownBlock=some (w.alloc (.cells #[.int .i64 f] tt)).heap.size) ->
   wpList Tryz.prog ops Q rest (a.put o.dst v') w'):wpList Tryz.prog ops Q (o::rest) a (w.alloc (.cells #[.int .i64 f] tt)):=by
 subst hg;obtain⟨i0,hi,hz0,hz1,hz2⟩:=info_parts WV;have hown':(w.alloc (.cells #[.int .i64 f] tt)).ownsRow B 3 1 v xs.length (xs.flatMap dw):=bW ((Below.refl _ _).alloc (Nat.le_refl _) _) hown;refine wpList_append_own_at _ hgd s x 130 ho B 3 i0 _ 1 8 Tryz.underlying130 hi hz0 hz1 hz2 rfl (by decide) v xs.length (xs.flatMap dw) hs hown' _ 1 1 [.int .i64 f] hx rfl (cell_one_new _ _ _) (by intro u hu;simp at hu;subst hu;rfl) (by unfold maxLen;omega) (by omega) (by simp;omega) ?_;intro v' w' h1 h2 _ h4;refine h v' w' ?_ h2 h4;unfold Rw;rw[List.length_append,List.flatMap_append];exact h1
end Go.Proofs.YtikgblkfmpecfaaGreatDoor
