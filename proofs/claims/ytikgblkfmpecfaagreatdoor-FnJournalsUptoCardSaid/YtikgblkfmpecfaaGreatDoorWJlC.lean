/-
  A changed byte ends a journal's recovery at or ahead of it; no program in sight. Own work.
-/
import Derived.Test.YtikgblkfmpecfaaGreatDoorWNJ
set_option linter.all false
set_option maxRecDepth 100000
set_option maxHeartbeats 8000000
namespace Go.Proofs.YtikgblkfmpecfaaGreatDoor
open Go.RowKit
theorem Xz (a b:List UInt8) (n:Int):chk (a++b) n=chk b (chk a n):=by
 induction a generalizing n with
 | nil=>rfl
 | cons x r ih=>simp only[List.cons_append,chk];exact ih _
theorem XA:∀(l:List UInt8) (n m:Int),0<=n->n<65521->0<=m->m<65521->chk l n=chk l m->n=m
 | [],n,m,_,_,_,_,h=>h
 | b::r,n,m,h1,h2,h3,h4,h=>by
  simp only[chk]at h;have:=XA r _ _ (by omega) (by omega) (by omega) (by omega) h;omega
theorem adE {A B:List UInt8} {a c:UInt8} (h:a≠c):chk (A++a::B) 7≠chk (A++c::B) 7:=by
 intro he;rw[Xz,Xz]at he;simp only[chk]at he;obtain⟨u0,u1⟩:=Qb A 7 (by omega) (by omega);have:=XA B _ _ (by omega) (by omega) (by omega) (by omega) he;have ha:=a.toNat_lt;have hc:=c.toNat_lt;exact h (UInt8.toNat_inj.1 (by omega))
theorem XB (Y:ByteArray):(bT Y).length=Y.size+2+(Lib.decDigits (fO Y).toNat).length:=by
 have:Y.data.toList.length=Y.size:=by simp
 simp[bT];omega
theorem zD (Y:ByteArray):(bT Y).take Y.size=Y.data.toList:=by
 unfold bT;exact List.take_left' (by simp)
theorem XC (Y:ByteArray):(bT Y).drop (Y.size+2)=Lib.decDigits (fO Y).toNat:=by
 unfold bT;rw[show Y.data.toList++32::35::Lib.decDigits (fO Y).toNat=(Y.data.toList++[32,35])++Lib.decDigits (fO Y).toNat by simp];exact List.drop_left' (by simp)
theorem Kt (Y:ByteArray):(bT Y)[Y.size+1]?=some 35:=by
 unfold bT;have e:Y.data.toList.length=Y.size:=by simp
 rw[List.getElem?_append_right (by omega),e,show Y.size+1-Y.size=1 by omega];rfl
theorem Ku {Y:ByteArray} (h:fZ Y.data.toList) {j:Nat} (hj:(bT Y)[j]?=some 35):j=Y.size+1:=by
 unfold bT at hj;have e:Y.data.toList.length=Y.size:=by simp
 rcases Nat.lt_or_ge j Y.size with h1|h1
 ·rw[List.getElem?_append_left (by omega)]at hj;exact absurd rfl (h _ (List.mem_of_getElem? hj)).2
 ·rw[List.getElem?_append_right (by omega),e]at hj;obtain⟨k,rfl⟩:∃k,j=Y.size+k:=⟨j-Y.size,by omega⟩
  rw[Nat.add_sub_cancel_left]at hj;match k,hj with
  | 0,hj=>simp at hj
  | 1,_=>rfl
  | k+2,hj =>
   simp only[List.getElem?_cons_succ]at hj
   exact absurd rfl (XD _ _ (List.mem_of_getElem? hj)).2
theorem bytes_inj {X Y:ByteArray} (h:X.data.toList=Y.data.toList):X=Y:=by
 apply ByteArray.ext;exact Array.toList_inj.1 h
theorem adF {X Y:ByteArray} (hX:fZ X.data.toList) (hY:fZ Y.data.toList) {i:Nat} {c:UInt8} (hi:i<(bT X).length) (hc:(bT X)[i]?≠some c) (h:bT Y=(bT X).set i c):False:=by
 have hq:=Kt Y;have hp:=Kt X;have hm:X.size=Y.size:=by
  by_cases XE:i=Y.size+1
  ·rw[h,<-XE,List.getElem?_set_self hi]at hq;obtain rfl:=Option.some.inj hq;have hne:i≠X.size+1:=by rintro rfl;exact hc hp
   have h2:(bT Y)[X.size+1]?=some 35:=by rw[h,List.getElem?_set_ne hne];exact hp
   have:=Ku hY h2;omega
  ·rw[h,List.getElem?_set_ne XE]at hq;have:=Ku hX hq;omega
 rcases Nat.lt_or_ge i X.size with h1|h1
 ·have hd:Lib.decDigits (fO Y).toNat=Lib.decDigits (fO X).toNat:=by
   rw[<-XC Y,<-XC X,h,<-hm,List.drop_set_of_lt (by omega)]
  have hk:=adG _ _ hd;obtain⟨a0,_⟩:=D_ X;obtain⟨b0,_⟩:=D_ Y;have hk2:fO X=fO Y:=by omega
  have hY2:Y.data.toList=X.data.toList.set i c:=by
   rw[<-zD Y,<-zD X,h,<-hm,List.take_set]
  have hxi:i<X.data.toList.length:=by simpa using h1
  have e1:X.data.toList=X.data.toList.take i++X.data.toList[i]::X.data.toList.drop (i+1):=by
   rw[<-List.drop_eq_getElem_cons hxi,List.take_append_drop]
  have e2:X.data.toList.set i c=X.data.toList.take i++c::X.data.toList.drop (i+1):=by
   rw[List.set_eq_take_append_cons_drop,if_pos hxi]
  have hne:X.data.toList[i]≠c:=by
   intro e;apply hc;unfold bT;rw[List.getElem?_append_left hxi,List.getElem?_eq_getElem hxi,e]
  refine adE (A:=X.data.toList.take i) (B:=X.data.toList.drop (i+1)) hne ?_;rw[<-e1,<-e2,<-hY2];exact hk2
 ·have hY2:Y.data.toList=X.data.toList:=by
   rw[<-zD Y,<-zD X,h,<-hm,List.take_set_of_le h1]
  obtain rfl:=bytes_inj hY2;apply hc;have:=congrArg (λl:List UInt8=>l[i]?) h;rw[this,List.getElem?_set_self hi]
theorem adH {X Y:ByteArray} (hX:fZ X.data.toList) {i:Nat} (hi:i<(bT X).length) (h:bT Y=(bT X).take i):False:=by
 have hq:=Kt Y;have hl:=XB Y;have hl2:=congrArg List.length h;rw[List.length_take]at hl2;have hqi:Y.size+1<i:=by omega
 rw[h,List.getElem?_take_of_lt hqi]at hq;have hm:=Ku hX hq;have hY2:Y.data.toList=X.data.toList:=by
  rw[<-zD Y,<-zD X,h,List.take_take,show min Y.size i=X.size by omega]
 obtain rfl:=bytes_inj hY2;omega
theorem XF {X Y:ByteArray} (hY:fZ Y.data.toList) {z:List UInt8} (hz:z≠[]) (h:bT Y=bT X++z):False:=by
 have hp:=Kt X;have hl:=XB X;have hp2:(bT Y)[X.size+1]?=some 35:=by rw[h,List.getElem?_append_left (by omega)];exact hp
 have hm:=Ku hY hp2;have hY2:Y.data.toList=X.data.toList:=by
  rw[<-zD Y,<-zD X,h,show Y.size=X.size by omega];exact List.take_append_of_le_length (by omega)
 obtain rfl:=bytes_inj hY2;have:=congrArg List.length h;simp at this;exact hz this
theorem XG {a b r s:List UInt8} (ha:(10:UInt8) ∉ a) (hb:(10:UInt8) ∉ b) (h:a++10::r=b++10::s):a=b:=by
 have h1:=Qc 10 ha r;have h2:=Qc 10 hb s;rw[h,h2]at h1;exact(Prod.mk.inj h1).1.symm
theorem adI {L R:List Df} {l:List UInt8} {k i:Nat} {c:UInt8} (h:nextL L l=some (R,k)) (hi:i<k) (hc:l[i]?≠some c):nextL L (l.set i c)=none:=by
 obtain⟨e,r,he,rfl,rfl⟩:=Jq h;cases hn:nextL L ((bT (aH e)++10::r).set i c)with
 | none=>rfl
 | some p =>
  obtain⟨R',k'⟩:=p
  obtain⟨e',r',he',hl,_⟩:=Jq hn
  have hX:=Qd he
  have hY:=Qd he'
  have nX:=Qe hX
  have nY:=Qe hY
  exfalso
  rcases Nat.lt_or_ge i (bT (aH e)).length with h1|h1
  ·rw[List.set_append_left _ _ h1]at hl
   have hcx:(bT (aH e))[i]?≠some c:=by
    intro hh;apply hc;rw[List.getElem?_append_left h1];exact hh
   by_cases h10:c=10
   ·subst h10
    rw[List.set_eq_take_append_cons_drop,if_pos h1,List.append_assoc,List.cons_append]at hl
    have hnt:(10:UInt8) ∉ (bT (aH e)).take i:=λhm=>nX (List.mem_of_mem_take hm)
    exact adH hX h1 (XG hnt nY hl).symm
   ·have hns:(10:UInt8) ∉ (bT (aH e)).set i c:=by
     intro hm;rcases List.mem_or_eq_of_mem_set hm with hm|hm
     ·exact nX hm
     ·exact h10 hm.symm
    exact adF hX hY h1 hcx (XG hns nY hl).symm
  ·have hie:i=(bT (aH e)).length:=by omega
   subst hie
   rw[List.set_append_right _ _ (Nat.le_refl _),Nat.sub_self,List.set_cons_zero]at hl
   have uO:c≠10:=by
    rintro rfl;apply hc;rw[List.getElem?_append_right (Nat.le_refl _),Nat.sub_self];rfl
   have hnp:(10:UInt8) ∉ bT (aH e)++[c]:=by
    intro hm;rcases List.mem_append.1 hm with hm|hm
    ·exact nX hm
    ·simp at hm;exact uO hm.symm
   have hl2:(bT (aH e)++[c])++r=bT (aH e')++10::r':=by rw[<-hl];simp
   rcases List.append_eq_append_iff.1 hl2 with⟨z,h2,h3⟩|⟨z,h2,h3⟩
   ·exact XF (X:=aH e) (z:=c::z) hY (by simp) (by rw[h2];simp)
   ·cases z with
    | nil =>
     rw[List.append_nil]at h2
     exact XF (X:=aH e) (z:=[c]) hY (by simp) h2.symm
    | cons a z =>
     simp only[List.cons_append,List.cons.injEq]at h3
     apply hnp
     rw[h2,<-h3.1]
     simp
theorem XH:∀(f:Nat) (L:List Df) (l:List UInt8) (n b i:Nat) (c:UInt8),l[i]?≠some c->i+b<(eU f L l n b).2.2->(eU f L (l.set i c) n b).2.2<=b+i
 | 0,L,l,n,b,i,c,hc,hi=>by simp only[eU]at hi;omega
 | f+1,L,l,n,b,i,c,hc,hi=>by
  rw[eU]at hi;cases hn:nextL L l with
  | none=>rw[hn]at hi;simp only at hi;omega
  | some p =>
   obtain⟨R,k⟩:=p
   rw[hn]at hi
   simp only at hi
   rcases Nat.lt_or_ge i k with h1|h1
   ·rw[eU,adI hn h1 hc]
    simp
   ·obtain⟨e,r,he,rfl,hk⟩:=Jq hn
    have e1:(bT (aH e)++10::r).set i c=bT (aH e)++10::r.set (i-k) c:=by
     rw[List.set_append_right _ _ (by omega)];obtain⟨j,hj⟩:∃j,i-(bT (aH e)).length=j+1:=⟨i-k,by omega⟩
     rw[hj,List.set_cons_succ];congr 3;omega
    have e2:∀r:List UInt8,(bT (aH e)++10::r).drop k=r:=λr=>by
     rw[hk,show bT (aH e)++10::r=(bT (aH e)++[10])++r by simp];exact List.drop_left' (by simp)
    rw[e2]at hi
    rw[e1,eU,OC he,<-hk]
    simp only
    rw[e2]
    have:=XH f R r (n+1) (b+k) (i-k) c (by
     intro hh;apply hc;rw[List.getElem?_append_right (by omega)];obtain⟨j,hj⟩:∃j,i-(bT (aH e)).length=j+1:=⟨i-k,by omega⟩
     rw[hj,List.getElem?_cons_succ,show j=i-k by omega];exact hh) (by omega)
    omega
theorem adJ (s:ByteArray) {i:Nat} {c:UInt8} (hc:s.data.toList[i]?≠some c) (hi:i<(aT s).2.2):(aT (bytesOf (s.data.toList.set i c))).2.2<=i:=by
 have:=XH 60 [] s.data.toList 0 0 i c hc (by simpa[aT]using hi);unfold aT;simpa[bytesOf]using this
end Go.Proofs.YtikgblkfmpecfaaGreatDoor
