/-
  Journals: what a recovery finds is a beginning of records; beginnings, longer journals, one more record. No program in sight. Own work.
-/
import Derived.Test.YtikgblkfmpecfaaGreatDoorWNJ
import Derived.Test.YtikgblkfmpecfaaGreatDoorWDK
set_option linter.all false
set_option maxRecDepth 100000
set_option maxHeartbeats 8000000
namespace Go.Proofs.YtikgblkfmpecfaaGreatDoor
theorem VB:∀(f:Nat) (L:List Df) (l:List UInt8) (n b:Nat),∃(es:List En) (R:List Df) (rest:List UInt8),fK L es=some R/\es.length<=f/\l=eP es++rest/\eU f L l n b=(R,n+es.length,b+(eP es).length)
 | 0,L,l,n,b=>⟨[],L,l,rfl,Nat.le_refl _,by simp[eP],by simp[eU,eP]⟩
 | f+1,L,l,n,b=>by
  cases hn:nextL L l with
  | none=>exact⟨[],L,l,rfl,Nat.zero_le _,by simp[eP],by simp[eU,hn,eP]⟩
  | some x =>
   obtain⟨R,k⟩:=x
   obtain⟨e,r,he,rfl,rfl⟩:=Jq hn
   obtain⟨es,R2,rest,h1,h2,h3,h4⟩:=VB f R r (n+1) (b+((bT (aH e)).length+1))
   refine⟨e::es,R2,rest,by simp only[fK,he];exact h1,by simp only[List.length_cons];omega,by rw[FI,h3];simp,?_⟩
   have hd:(bT (aH e)++10::r).drop ((bT (aH e)).length+1)=r:=by
    rw[show bT (aH e)++10::r=(bT (aH e)++[10])++r by simp];exact List.drop_left' (by simp)
   rw[eU,hn]
   simp only[hd,h4,FI,List.length_cons,List.length_append,Prod.mk.injEq,true_and]
   omega
theorem VD:∀(f:Nat) (L:List Df) (l:List UInt8) (n b:Nat),n<=(eU f L l n b).2.1/\b<=(eU f L l n b).2.2/\((eU f L l n b).2.1=n->eU f L l n b=(L,n,b))
 | 0,L,l,n,b=>⟨Nat.le_refl _,Nat.le_refl _,λ_=>rfl⟩
 | f+1,L,l,n,b=>by
  rw[eU];cases hn:nextL L l with
  | none=>exact⟨Nat.le_refl _,Nat.le_refl _,λ_=>rfl⟩
  | some x =>
   obtain⟨R,c⟩:=x
   obtain⟨h1,h2,_⟩:=VD f R (l.drop c) (n+1) (b+c)
   exact⟨by simp only;omega,by simp only;omega,λh=>by simp only at h;omega⟩
theorem Jr (s:ByteArray):∃(es:List En) (rest:List UInt8),fK [] es=some (aT s).1/\es.length<=60/\s.data.toList=eP es++rest/\(aT s).2.1=es.length/\(aT s).2.2=(eP es).length:=by
 obtain⟨es,R,rest,h1,h2,h3,h4⟩:=VB 60 [] s.data.toList 0 0;refine⟨es,rest,?_,h2,h3,?_,?_⟩<;>(unfold aT;rw[h4];simp[h1])
theorem abT (s:ByteArray):aT (bytesOf (s.data.toList.take (aT s).2.2))=aT s:=by
 obtain⟨es,rest,h1,h2,h3,h4,h5⟩:=Jr s;have ht:s.data.toList.take (aT s).2.2=eP es:=by rw[h5,h3];exact List.take_left
 rw[ht,OB h1 h2];have h6:(bytesOf (eP es)).size=(eP es).length:=by show(eP es).toArray.size=_;rw[List.size_toArray]
 rw[h6,<-h4,<-h5]
theorem VE (s:ByteArray) (t:List UInt8):(aT s).2.1<=(aT (bytesOf (s.data.toList++t))).2.1/\(aT s).2.2<=(aT (bytesOf (s.data.toList++t))).2.2 /\
  ((aT (bytesOf (s.data.toList++t))).2.1=(aT s).2.1->aT (bytesOf (s.data.toList++t))=aT s):=by
 obtain⟨es,rest,h1,h2,h3,h4,h5⟩:=Jr s;have h6:=Js es 60 [] (aT s).1 (rest++t) 0 0 h1 h2;have h7:aT (bytesOf (s.data.toList++t))=eU (60-es.length) (aT s).1 (rest++t) (0+es.length) (0+(eP es).length):=by
  rw[<-h6,h3];simp[aT,bytesOf]
 obtain⟨g1,g2,g3⟩:=VD (60-es.length) (aT s).1 (rest++t) (0+es.length) (0+(eP es).length);rw[h7];refine⟨by omega,by omega,λh=>?_⟩;rw[g3 (by omega),Nat.zero_add,Nat.zero_add,<-h4,<-h5]
theorem abU {s:ByteArray} {e:En} {R:List Df} (hb:(aT s).2.2=s.size) (hn:(aT s).2.1<60) (h:aJ (aT s).1 e=some R) :
  aT (s++dV (aH e))=(R,(aT s).2.1+1,s.size+(dV (aH e)).size):=by
 obtain⟨es,rest,h1,h2,h3,h4,h5⟩:=Jr s;have hz:s.data.toList.length=s.size:=by simp
 have h0:rest=[]:=by
  have:=congrArg List.length h3;rw[hz,List.length_append]at this;exact List.length_eq_zero_iff.1 (by omega)
 subst h0;have ht:(s++dV (aH e)).data.toList=eP es++(bT (aH e)++10::[]):=by
  have:(s++dV (aH e)).data.toList=s.data.toList++(dV (aH e)).data.toList:=by simp
  rw[this,h3,Jt,List.append_nil]
 have h6:=Js es 60 [] (aT s).1 (bT (aH e)++10::[]) 0 0 h1 h2;obtain⟨f,hf⟩:∃f,60-es.length=f+1:=⟨60-es.length-1,by omega⟩
 have hl:(bT (aH e)).length+1=(dV (aH e)).size:=by
  have:=congrArg List.length (Jt (aH e));simp at this;simpa using this.symm
 unfold aT;unfold aT at h4 h h6;rw[ht,h6,hf,eU,OC h];have hd:(bT (aH e)++10::[]).drop ((bT (aH e)).length+1)=[]:=List.drop_eq_nil_of_le (by simp);simp only[hd,VF,Prod.mk.injEq,true_and];have hz2:(eP es).length=s.size:=by rw[<-h5,hb]
 refine⟨by omega,by omega⟩
open Go.RowKit
theorem VG (s:ByteArray):s++(⟨#[]⟩:ByteArray)=s:=by
 rw[<-r_ (s++⟨#[]⟩),fV];exact(congrArg bytesOf (List.append_nil _)).trans (r_ s)
theorem ext_list (s:ByteArray) (j:Nat):s.extract 0 j=bytesOf (s.data.toList.take j):=by
 have:=OD s.data.toList j;rwa [r_]at this
theorem abV (l:List UInt8):(bytesOf l).size=l.length:=by show l.toArray.size=_;rw[List.size_toArray]
theorem FK (s:ByteArray):s.data.toList.length=s.size:=by simp
structure abW (s y c r:ByteArray) (L F:List Df) (m N B:Nat):Prop where
 abX:xw c ⟨#[]⟩=(r,L,true)
 abY:xw r ⟨#[]⟩=(r,L,true)
 cnt:oP r ⟨#[]⟩=(m,true)
 full:gG (s++y)=((F,N,B),true)
 more:(aT s).2.1<=m
 size:r.size<=c.size
 ext:c.extract 0 r.size=r
 le1:m<=N
 le2:r.size<=B
 same:N=m->F=L
 csize:c.size<=60000
 good:good L=true/\good F=true
theorem abZ {s y:ByteArray} (h6:s.size+y.size<=60000) (k:Nat) :
  ∃r L F m N B,abW s y (s++y.extract 0 k) r L F m N B:=by
 obtain⟨c,hc⟩:∃c,c=s++y.extract 0 k:=⟨_,rfl⟩
 have hcl:c.data.toList=s.data.toList++y.data.toList.take k:=by rw[hc,fV,ext_list];simp[bytesOf]
 have hcz:c.size<=60000:=by
  have:=congrArg List.length hcl;rw[FK,List.length_append,FK,List.length_take,FK]at this;omega
 have hk:=(qQ c).2.2;obtain⟨r,hr⟩:∃r,r=c.extract 0 (aT c).2.2:=⟨_,rfl⟩
 have hr2:r=bytesOf (c.data.toList.take (aT c).2.2):=by rw[hr,ext_list]
 have hrz:r.size=(aT c).2.2:=by rw[hr2,abV,List.length_take,FK];omega
 have hag:aT r=aT c:=by rw[hr2];exact abT c
 have z0:(⟨#[]⟩:ByteArray).size=0:=rfl;have m1:=VE s (y.data.toList.take k);rw[<-hcl,r_]at m1;have m2:=VE c (y.data.toList.drop k);have hcy:bytesOf (c.data.toList++y.data.toList.drop k)=s++y:=by
  rw[hcl,List.append_assoc,List.take_append_drop,<-fV,r_]
 rw[hcy]at m2;rw[<-hc];refine⟨r,(aT c).1,(aT (s++y)).1,(aT c).2.1,(aT (s++y)).2.1,(aT (s++y)).2.2,?_⟩;refine⟨?_,?_,?_,?_,m1.1,by omega,by rw[hrz,<-hr],m2.1,by rw[hrz];exact m2.2.1,λh=>by rw[m2.2.2 h],hcz,(qQ c).1,(qQ (s++y)).1⟩
 ·unfold xw;rw[if_pos (by omega),VG,<-hr]
 ·unfold xw;rw[if_pos (by omega),VG,hag];have:r.extract 0 (aT c).2.2=r:=by rw[<-hrz,ext_list,<-FK,List.take_length,r_]
  rw[this]
 ·unfold oP;rw[if_pos (by omega),hag]
 ·unfold gG;rw[if_pos (by rw[bsize];omega)]
theorem VH {s t y:ByteArray} {e:En} (h:pX s t e=some y):s.size+t.size<=60000/\s.size+y.size<=60000/\∃(L:List Df) (n:Nat) (R:List Df) (x:ByteArray),
  gG (s++t)=((L,n,s.size+t.size),true)/\aJ L e=some R/\kD L e=some x/\y=t++x/\gG (s++y)=((R,n+1,(s++y).size),true)/\good L=true:=by
 unfold pX at h;split at h;next h6 =>
  split at h
  next hkn =>
   obtain⟨hk,hn⟩:=hkn
   cases ha:aJ (aT (s++t)).1 e with
   | none=>rw[kD,Ap ha]at h;cases h
   | some R =>
    have hx:kD (aT (s++t)).1 e=some (dV (aH e)):=by rw[kD,vN ha];rfl
    rw[hx]at h
    simp only at h
    split at h
    next h7 =>
     obtain rfl:=Option.some.inj h
     have hnx:=abU hk hn ha
     have e1:s++(t++dV (aH e))=s++t++dV (aH e):=by
      rw[<-r_ (s++(t++dV (aH e))),<-r_ (s++t++dV (aH e))];simp only[fV,List.append_assoc]
     refine⟨h6,h7,(aT (s++t)).1,(aT (s++t)).2.1,R,_,?_,ha,hx,rfl,?_,(qQ (s++t)).1⟩
     ·unfold gG
      rw[if_pos (by rw[bsize];omega)]
      have:(aT (s++t)).2.2=s.size+t.size:=by rw[hk,bsize]
      rw[<-this]
     ·unfold gG
      rw[if_pos (by rw[bsize];omega),e1,hnx]
      simp only[bsize]
    next=>cases h
  next=>cases h
 next=>cases h
end Go.Proofs.YtikgblkfmpecfaaGreatDoor
