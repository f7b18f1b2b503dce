/-
  Possible entries are read back from their texts; no program in sight. Own work.
-/
import Derived.Test.YtikgblkfmpecfaaGreatDoorWLX
import Derived.Test.YtikgblkfmpecfaaGreatDoorWRI
import Derived.Test.YtikgblkfmpecfaaGreatDoorWX
set_option linter.all false
set_option maxRecDepth 100000
set_option maxHeartbeats 8000000
namespace Go.Proofs.YtikgblkfmpecfaaGreatDoor
open Go.RowKit
theorem Zz (full:Bool) {L:List Df} {ns:List Nd} {x:W2} (hg:good L=true) (h:aS (aO L) ns=some x):(qE ns).Good/\∀(ts:List Tk) (en:Int),ts.map tk2=m_ full (qE ns)->kW L en ts=.ok ns:=by
 have hN:=wB hg;have h8:∀d∈L,d.name.size<=8:=λd hd=>qV (hN d hd);obtain⟨t,ht,hok,hct⟩:=LG h8 h;have hlen:=Am h;rw[EK ht];unfold aS at h;split at h
 ·split at h
  ·rename_i w hy
   obtain⟨ts',h1,h2,h3,h4⟩:=KL hN ns [] _ [] hy rfl (by simp);rw[ht]at h1;obtain rfl:=Option.some.inj h1;have hgt:=h3 t (by simp);have hns:t.nodes=ns:=by simpa[Ec]using h4
   refine⟨hgt,λts en e2=>?_⟩;obtain⟨o,k,g1,g2,g3⟩:=(GU full t hgt).1 ts e2 ts.length [] [] (Nat.le_refl _) rfl;rw[List.append_nil,List.nil_append,X7 _ _ _ rfl]at g3;unfold kW;rw[g3];simp only;rw[if_neg (by simp)];have hc:dG (aO L) o 0 []=none:=QA o 0 [] _ (by rw[g1,hns];exact hy) (by
    have:=congrArg List.length g1;rw[List.length_map,hns]at this;omega)
   rw[hc];simp only;rw[g1,hns]
  ·cases h
 ·cases h
theorem afo {L:List Df} {nm:ByteArray} {ns:List Nd} {x:W2} (hg:good L=true) (h:aS (aO L) ns=some x) (hn:nameB nm=true) (hf:findD L nm=none) :
  dX L (nm++kT++aV false (qE ns))=some ⟨nm,x.1,x.2,ns⟩:=by
 obtain⟨hgt,hw⟩:=Zz false hg h;obtain⟨gn,kn⟩:=Qu hn;have hN:=wB hg;obtain⟨t,ht,hok,hct⟩:=LG (λd hd=>qV (hN d hd)) h;have hsz:(aV false (qE ns)).size<=4800:=by
  rw[EK ht];have:=ou false t hok;omega
 have zL:=qV hn;have hlx:eF ((nm++kT++aV false (qE ns)).data.toList++[])=some ((1,nm)::(3,⟨#[61]⟩)::m_ false (qE ns)):=by
  rw[fV,fV,List.append_assoc,List.append_assoc,KF gn (show Edge (kT.data.toList++_)from GH (by decide))];show Option.map _ (eF (32::61::32::((aV false (qE ns)).data.toList++[])))=_;rw[BF,GI _ (by decide) (by decide) (by decide) (by decide),BF,GN false _ hgt [] ad2,eF];simp
 rw[List.append_nil]at hlx;obtain⟨ts,e1,e2⟩:=ad1 (nm++kT++aV false (qE ns)) _ 0 rfl _ (by rw[List.drop_zero];exact hlx);obtain⟨t1,r1,rfl,f1,e2⟩:=List.map_eq_cons_iff.1 e2;obtain⟨t2,r2,rfl,f2,e2⟩:=List.map_eq_cons_iff.1 e2;have htk:iU (nm++kT++aV false (qE ns))=.ok (t1::t2::r2):=by
  unfold iU;rw[if_neg (by rw[bsize,bsize,show kT.size=3 from rfl];omega)];exact e1
 have k1:t1.kind=1/\t1.text=nm:=by have:=Prod.mk.inj f1;exact this
 have hs:bI (t2::r2) 61=true:=by rw[GR f2];decide
 unfold dX jJ;rw[htk];simp only;rw[if_pos ⟨k1.1,hs⟩,List.tail_cons,hw r2 _ e2,k1.2];simp only;rw[h];simp only[Option.getD_some];rw[if_pos ⟨hn,hf⟩]
theorem Sr (a b:List UInt8):a.isPrefixOf (a++b)=true:=List.isPrefixOf_iff_prefix.2 ⟨b,rfl⟩
theorem r_ (s:ByteArray):bytesOf s.data.toList=s:=by cases s;rfl
theorem afp {L:List Df} {n:ByteArray} (hg:good L=true) (h:0<=eY n L 0):nameB n=true:=by
 rcases oO n L 0 with⟨h1,_⟩|⟨i,hi,h1,h2⟩
 ·omega
 ·obtain⟨h3,h4⟩:=Qo h2;have:=wB hg _ h3;rwa [h4]at this
theorem LH {L R:List Df} {e:En} (h:aJ L e=some R):good L=true/\good R=true /\
  ((e.kind=1/\e=⟨1,e.name,⟨#[]⟩,e.body⟩/\nameB e.name=true/\findD L e.name=none/\∃x,aS (aO L) e.body=some x/\R=L++[⟨e.name,x.1,x.2,e.body⟩]) \/
   (e.kind=2/\e=⟨2,e.name,⟨#[]⟩,[]⟩/\nameB e.name=true/\R=L.eraseIdx (eY e.name L 0).toNat) \/
   (e.kind=3/\e=⟨3,e.name,e.to,[]⟩/\nameB e.name=true/\nameB e.to=true/\R=L.map (ig e.name e.to))):=by
 have hR:=xE h;obtain⟨k,n,t,b⟩:=e;have h0:=h;unfold aJ at h;split at h
 ·rename_i hp
  obtain⟨hg,hpl⟩:=hp;refine⟨hg,hR,?_⟩;simp only[qm,Bool.and_eq_true,Bool.or_eq_true,decide_eq_true_eq]at hpl;dsimp only at h hpl;split at h
  ·rename_i hk
   subst hk;left;have ht:t=⟨#[]⟩:=hpl.1.resolve_left (by decide);subst ht;unfold jG at h;rw[if_pos hg]at h;obtain⟨h1,h2⟩:=zi h;have hg1:=h1;rw[h2]at hg1;unfold good at hg1;simp only[Bool.and_eq_true,decide_eq_true_eq]at hg1;have hg2:=hg1.2;rw[AV,Bool.and_eq_true]at hg2;have hat:=hg2.2;simp only[List.nil_append,dJ,Bool.and_true,ql,Bool.and_eq_true,decide_eq_true_eq,kE]at hat
   obtain⟨⟨q1,q2⟩,q3⟩:=hat
   have q1:=of_decide_eq_true q1;cases hty:aS (aO L) b with
   | none=>rw[hty]at q1;cases q1
   | some x =>
    refine⟨rfl,rfl,q2,by simpa using q3,x,rfl,?_⟩
    rw[h2]
    simp only[kE,hty,Option.getD_some]
  ·split at h
   ·rename_i hk hk2
    subst hk2;right;left;have ht:t=⟨#[]⟩:=hpl.1.resolve_left (by decide);have hb:b=[]:=hpl.2.resolve_left (by decide);subst ht hb;refine⟨rfl,rfl,XV h0,?_⟩;unfold iO at h;split at h
    ·exact(zi h).2
    ·cases h
   ·split at h
    ·rename_i hk hk2 hk3
     subst hk3;right;right;have hb:b=[]:=hpl.2.resolve_left (by decide);subst hb;refine⟨rfl,rfl,?_,XW h0,?_⟩
     ·unfold iF at h;split at h
      ·rename_i hf;exact afp hf.1 hf.2
      ·cases h
     ·unfold iF at h;split at h
      ·exact(zi h).2
      ·cases h
    ·cases h
 ·cases h
theorem afq {l:List UInt8} (h:(32:UInt8) ∉ l) (r:List UInt8):Lib.cut (l++32::r) [32]=(l,r,true):=by
 rcases sD 32 (l++32::r)with⟨_,h2⟩|⟨x,y,h1,h2,h3⟩
 ·exact absurd (by simp) h2
 ·have:l=x/\r=y:=by
   clear h3;induction l generalizing x with
   | nil =>
    cases x with
    | nil=>simpa using h1
    | cons a x=>simp only[List.nil_append,List.cons_append,List.cons.injEq]at h1;exact absurd (List.mem_cons.2 (.inl h1.1)) h2
   | cons c l ih =>
    cases x with
    | nil=>simp only[List.cons_append,List.nil_append,List.cons.injEq]at h1;exact absurd (List.mem_cons.2 (.inl h1.1.symm)) h
    | cons a x =>
     simp only[List.cons_append,List.cons.injEq]at h1
     obtain⟨q1,q2⟩:=ih (λhm=>h (List.mem_cons_of_mem _ hm)) x h1.2 (λhm=>h2 (List.mem_cons_of_mem _ hm))
     exact⟨by rw[h1.1,q1],q2⟩
  obtain⟨rfl,rfl⟩:=this;exact h3
theorem YH {L R:List Df} {e:En} (h:aJ L e=some R):jR L (aH e)=some e:=by
 have key:∀o,wC L (aH e).data.toList=some o->o=e->jR L (aH e)=some e:=by
  rintro o ho rfl;unfold jR;rw[ho];unfold jh;simp only;rw[if_pos ⟨by rw[h];rfl,trivial⟩]
 obtain⟨hg,_,hc⟩:=LH h;rcases hc with⟨k1,he,hn,hf,x,hx,_⟩|⟨k2,he,hn,_⟩|⟨k3,he,hn,ht,_⟩
 ·refine key _ ?_ he.symm;have e1:(aH e).data.toList=qA++(e.name++kT++aV false (qE e.body)).data.toList:=by
   unfold aH;rw[if_pos k1,fV];rfl
  unfold wC;rw[e1,if_pos (Sr _ _),show(4:Nat)=qA.length from rfl,List.drop_left,r_,afo hg hx hn hf];rfl
 ·refine key _ ?_ he.symm;have e1:(aH e).data.toList=(rC++[32])++e.name.data.toList:=by
   unfold aH;rw[if_neg (by omega),if_pos k2,fV];rfl
  unfold wC;rw[e1,if_neg (by rw[show qA.isPrefixOf ((rC++[32])++e.name.data.toList)=false from rfl];simp),if_pos (Sr _ _),show(5:Nat)=(rC++[32]).length from rfl,List.drop_left,r_]
 ·refine key _ ?_ he.symm;have e1:(aH e).data.toList=(rD++[32])++(e.name.data.toList++32::e.to.data.toList):=by
   unfold aH;rw[if_neg (by omega),if_neg (by omega),fV,fV,fV,List.append_assoc];rfl
  have p1:∀l:List UInt8,qA.isPrefixOf ((rD++[32])++l)=false:=λ_=>rfl;have p2:∀l:List UInt8,(rC++[32]).isPrefixOf ((rD++[32])++l)=false:=λ_=>rfl;unfold wC;rw[e1,if_neg (by rw[p1];simp),if_neg (by rw[p2];simp),if_pos (Sr _ _),show(5:Nat)=(rD++[32]).length from rfl,List.drop_left,
   afq (Qn hn)]
  simp only[if_true,r_]
def fZ (l:List UInt8):Prop:=∀b∈l,b≠10/\b≠35
theorem fZ.app {a b:List UInt8} (ha:fZ a) (hb:fZ b):fZ (a++b):=λx hx=>by
 rcases List.mem_append.1 hx with h|h
 ·exact ha x h
 ·exact hb x h
theorem ZA {b:UInt8} (h:dL b=true):b≠10/\b≠35:=by
 simp only[dL,Bool.and_eq_true,decide_eq_true_eq]at h;constructor<;>(rintro rfl;revert h;decide)
theorem LJ {b:UInt8} (h:aP b=true):b≠10/\b≠35:=by
 simp only[aP,Bool.and_eq_true,decide_eq_true_eq]at h;constructor<;>(rintro rfl;revert h;decide)
theorem afr {b:UInt8} (h:bV b=true):b≠10/\b≠35:=by
 simp only[bV,Bool.or_eq_true]at h;rcases h with h|h
 ·exact ZA h
 ·exact LJ h
theorem LK {x:ByteArray} (h:xR x=true):fZ x.data.toList:=by
 obtain⟨b,w,e,h1,h2,_⟩:=X6 h;rw[e];intro c hc;rcases List.mem_cons.1 hc with rfl|hc
 ·exact ZA h1
 ·exact afr (h2 c hc)
theorem afs {n:Nd} (h:BG n):fZ (jr n).data.toList:=by
 unfold jr;rcases h.cases with⟨h1,_,h2,_⟩|⟨h1,_,h2,h3⟩|⟨h1,h2,h3,_⟩
 ·rw[if_pos h1];exact LK h2
 ·rw[if_neg (by omega),if_pos h1,fV,fV];refine fZ.app (fZ.app (LK (Eb (by omega) (by omega)).1) (by intro b hb;revert b;decide)) ?_;obtain⟨⟨b,w,e1,e2,e3,_⟩,_⟩:=Qv h2 h3;rw[e1];intro c hc;rcases List.mem_cons.1 hc with rfl|hc
  ·exact LJ e2
  ·exact LJ (e3 c hc)
 ·rw[if_neg (by omega),if_neg h3];exact LK (Eb h1 h2).1
theorem LM {s:ByteArray} (h:fZ s.data.toList) (c:Bool):fZ (brk s c).data.toList:=by
 cases c
 ·exact h
 ·show fZ (GK++s++GL).data.toList;rw[fV,fV];exact fZ.app (fZ.app (by intro b hb;revert b;decide) h) (by intro b hb;revert b;decide)
theorem H7 (full:Bool):∀(t:Tr),t.Good->fZ (aV full t).data.toList
 | .leaf n,h=>afs h
 | .seq a b,h=>by
  rw[aV,fV,fV];exact fZ.app (fZ.app (LM (H7 full a h.1) _) (by intro b hb;revert b;decide)) (LM (H7 full b h.2) _)
 | .par a b,h=>by
  rw[aV,fV,fV];exact fZ.app (fZ.app (LM (H7 full a h.1) _) (by intro b hb;revert b;decide)) (LM (H7 full b h.2) _)
theorem LP {s:ByteArray} (h:nameB s=true):fZ s.data.toList:=LK (Qu h).1
theorem Qd {L R:List Df} {e:En} (h:aJ L e=some R):fZ (aH e).data.toList:=by
 obtain⟨hg,_,hc⟩:=LH h;unfold aH;rcases hc with⟨k1,he,hn,hf,x,hx,_⟩|⟨k2,he,hn,_⟩|⟨k3,he,hn,ht,_⟩
 ·rw[if_pos k1,fV,fV,fV];exact fZ.app (by intro b hb;revert b;decide) (fZ.app (fZ.app (LP hn) (by intro b hb;revert b;decide)) (H7 false _ (Zz false hg hx).1))
 ·rw[if_neg (by omega),if_pos k2,fV];exact fZ.app (by intro b hb;revert b;decide) (LP hn)
 ·rw[if_neg (by omega),if_neg (by omega),fV,fV,fV];exact fZ.app (by intro b hb;revert b;decide) (fZ.app (fZ.app (LP hn) (by intro b hb;revert b;decide)) (LP ht))
theorem dig_lo {v:Nat} (h:v<10):UInt8.ofNat (48+v)≠10/\UInt8.ofNat (48+v)≠35:=LJ (KE h).1
theorem XD (u:Nat):fZ (Lib.decDigits u):=by
 induction u using Nat.strongRecOn with
 | _ u ih =>
  intro b hb
  by_cases h:u<10
  ·rw[Lib.decDigits,dif_pos h]at hb
   simp only[List.mem_singleton]at hb
   subst hb
   exact dig_lo h
  ·rw[Lib.decDigits,dif_neg h]at hb
   rcases List.mem_append.1 hb with hb|hb
   ·exact ih (u / 10) (by omega) b hb
   ·simp only[List.mem_singleton]at hb
    subst hb
    exact dig_lo (by omega)
theorem ZB (u:Nat):Lib.decDigits u≠[]:=by
 by_cases h:u<10
 ·rw[Lib.decDigits,dif_pos h];simp
 ·rw[Lib.decDigits,dif_neg h];simp
theorem ofNat_inj {a b:Nat} (ha:a<10) (hb:b<10) (h:UInt8.ofNat (48+a)=UInt8.ofNat (48+b)):a=b:=by
 have:=congrArg UInt8.toNat h;simp at this;omega
theorem LQ {u:Nat} (h:u<10):Lib.decDigits u=[UInt8.ofNat (48+u)]:=by rw[Lib.decDigits,dif_pos h]
theorem LU {u:Nat} (h:¬u<10):Lib.decDigits u=Lib.decDigits (u / 10)++[UInt8.ofNat (48+u % 10)]:=by conv=>lhs;rw[Lib.decDigits,dif_neg h]
theorem adG:∀(u v:Nat),Lib.decDigits u=Lib.decDigits v->u=v:=by
 intro u;induction u using Nat.strongRecOn with
 | _ u ih =>
  intro v h
  by_cases hu:u<10
  ·by_cases hv:v<10
   ·rw[LQ hu,LQ hv]at h
    exact ofNat_inj hu hv (by simpa using h)
   ·rw[LQ hu,LU hv]at h
    have:=congrArg List.length h
    simp at this
    exact absurd this (ZB _)
  ·by_cases hv:v<10
   ·rw[LU hu,LQ hv]at h
    have:=congrArg List.length h
    simp at this
    exact absurd this (ZB _)
   ·rw[LU hu,LU hv]at h
    obtain⟨h1,h2⟩:=List.append_inj' h rfl
    have e1:=ih (u / 10) (by omega) _ h1
    have e2:=ofNat_inj (a:=u % 10) (b:=v % 10) (by omega) (by omega) (by simpa using h2)
    omega
theorem Qc (b:UInt8) {l:List UInt8} (h:b ∉ l) (r:List UInt8):Lib.cut (l++b::r) [b]=(l,r,true):=by
 rcases sD b (l++b::r)with⟨_,h2⟩|⟨x,y,h1,h2,h3⟩
 ·exact absurd (by simp) h2
 ·have:l=x/\r=y:=by
   clear h3;induction l generalizing x with
   | nil =>
    cases x with
    | nil=>simpa using h1
    | cons a x=>simp only[List.nil_append,List.cons_append,List.cons.injEq]at h1;exact absurd (List.mem_cons.2 (.inl h1.1)) h2
   | cons c l ih =>
    cases x with
    | nil=>simp only[List.cons_append,List.nil_append,List.cons.injEq]at h1;exact absurd (List.mem_cons.2 (.inl h1.1.symm)) h
    | cons a x =>
     simp only[List.cons_append,List.cons.injEq]at h1
     obtain⟨q1,q2⟩:=ih (λhm=>h (List.mem_cons_of_mem _ hm)) x h1.2 (λhm=>h2 (List.mem_cons_of_mem _ hm))
     exact⟨by rw[h1.1,q1],q2⟩
  obtain⟨rfl,rfl⟩:=this;exact h3
def bT (X:ByteArray):List UInt8:=X.data.toList++32::35::Lib.decDigits (fO X).toNat
theorem Jt (X:ByteArray):(dV X).data.toList=bT X++[10]:=by
 simp[dV,bT,LV,LW,eG]
theorem LX (X:ByteArray):dV X=bytesOf (bT X++[10]):=by rw[<-Jt,r_]
theorem Qe {X:ByteArray} (h:fZ X.data.toList):(10:UInt8) ∉ bT X:=by
 unfold bT;intro hm;rcases List.mem_append.1 hm with hm|hm
 ·exact(h _ hm).1 rfl
 ·rcases List.mem_cons.1 hm with hm|hm
  ·revert hm;decide
  ·rcases List.mem_cons.1 hm with hm|hm
   ·revert hm;decide
   ·exact(XD _ _ hm).1 rfl
theorem aft {L R:List Df} {e:En} (h:aJ L e=some R):kJ L (bT (aH e))=some R:=by
 obtain⟨h1,_,h3,_⟩:=ZC (LX (aH e));unfold kJ;rw[h1,if_neg (by omega),Int.toNat_natCast,h3,<-LX];unfold sO;rw[YH h];simpa using h
theorem step_some {L R:List Df} {x:List UInt8} (h:kJ L x=some R):∃e,aJ L e=some R/\x=bT (aH e):=by
 unfold kJ at h;split at h
 ·cases h
 ·obtain⟨h1,e,h2,h3⟩:=Sv h;obtain⟨_,_,h4⟩:=Qq h2;refine⟨e,h3,?_⟩;rw[<-h4,LX]at h1;have:=congrArg (λb:ByteArray=>b.data.toList) h1;simp only[bytesOf]at this;exact(List.append_cancel_right this).symm
theorem OC {L R:List Df} {e:En} (h:aJ L e=some R) (rest:List UInt8):nextL L (bT (aH e)++10::rest)=some (R,(bT (aH e)).length+1):=by
 unfold nextL;rw[Qc 10 (Qe (Qd h))];simp only[if_true,aft h,Option.map_some]
theorem Jq {L R:List Df} {l:List UInt8} {k:Nat} (h:nextL L l=some (R,k)):∃e r,aJ L e=some R/\l=bT (aH e)++10::r/\k=(bT (aH e)).length+1:=by
 unfold nextL at h;split at h
 ·rename_i hc
  rcases sD 10 l with⟨h1,_⟩|⟨x,r,h1,h2,h3⟩
  ·rw[h1]at hc;cases hc
  ·rw[h3]at h;simp only at h;cases hs:kJ L x with
   | none=>rw[hs]at h;cases h
   | some R' =>
    rw[hs]at h
    simp only[Option.map_some,Option.some.injEq,Prod.mk.injEq]at h
    obtain⟨rfl,rfl⟩:=h
    obtain⟨e,he,rfl⟩:=step_some hs
    exact⟨e,r,he,h1,rfl⟩
 ·cases h
def fK:List Df->List En->Option (List Df)
 | L,[]=>some L
 | L,e::r=>match aJ L e with
  | none=>none
  | some R=>fK R r
def eP (es:List En):List UInt8:=(es.map λe=>bT (aH e)++[10]).flatten
theorem FI (e:En) (es:List En):eP (e::es)=bT (aH e)++10::eP es:=by simp[eP]
theorem SA:∀(es:List En) (L:List Df) (out:ByteArray),j_ L out es=(fK L es).map λ_=>out++bytesOf (eP es)
 | [],L,out=>by simp[j_,fK,eP,bytesOf,ByteArray.ext_iff]
 | e::r,L,out=>by
  simp only[j_,fK];cases h:aJ L e with
  | none=>rfl
  | some R =>
   simp only
   rw[SA r R]
   congr 1
   funext _
   rw[FI,LX,ByteArray.append_assoc]
   congr 1
   simp[bytesOf,ByteArray.ext_iff]
theorem Js:∀(es:List En) (f:Nat) (L R:List Df) (rest:List UInt8) (n b:Nat),fK L es=some R->es.length<=f->eU f L (eP es++rest) n b=eU (f-es.length) R rest (n+es.length) (b+(eP es).length)
 | [],f,L,R,rest,n,b,h,hf=>by
  simp only[fK,Option.some.injEq]at h;subst h;simp[eP]
 | e::r,f,L,R,rest,n,b,h,hf=>by
  simp only[fK]at h;cases ha:aJ L e with
  | none=>rw[ha]at h;cases h
  | some R1 =>
   rw[ha]at h
   simp only at h
   obtain⟨f',rfl⟩:∃f',f=f'+1:=⟨f-1,by simp at hf;omega⟩
   rw[FI,List.append_assoc,List.cons_append,eU,OC ha]
   simp only
   rw[show(bT (aH e)++10::(eP r++rest)).drop ((bT (aH e)).length+1)=eP r++rest from by
    rw[show bT (aH e)++10::(eP r++rest)=(bT (aH e)++[10])++(eP r++rest)by simp];exact List.drop_left' (by simp)]
   rw[Js r f' R1 R rest _ _ h (by simp at hf;omega)]
   congr 1
   ·simp
   ·simp;omega
   ·simp;omega
theorem VF (f:Nat) (L:List Df) (n b:Nat):eU f L [] n b=(L,n,b):=by
 cases f with
 | zero=>rfl
 | succ f=>rw[eU];rfl
theorem OB {es:List En} {R:List Df} (h:fK [] es=some R) (hl:es.length<=60):aT (bytesOf (eP es))=(R,es.length,(bytesOf (eP es)).size):=by
 have h1:=Js es 60 [] R [] 0 0 h hl;unfold aT;rw[show(bytesOf (eP es)).data.toList=eP es++[]by simp[bytesOf],h1,VF];simp[bytesOf,ByteArray.size]
theorem Yx {es:List En} {s:ByteArray} (h:iI es=some s):es.length<=60/\s.size<=60000/\∃R,fK [] es=some R/\s=bytesOf (eP es):=by
 unfold iI at h;split at h
 ·rename_i hl
  rw[SA]at h;cases hf:fK [] es with
  | none=>rw[hf]at h;cases h
  | some R =>
   rw[hf]at h
   simp only[Option.map_some]at h
   split at h
   ·rename_i hs
    obtain rfl:=Option.some.inj h
    have e:(⟨#[]⟩:ByteArray)++bytesOf (eP es)=bytesOf (eP es):=by simp[ByteArray.ext_iff]
    rw[e]at hs ⊢
    exact⟨hl,hs,R,rfl,rfl⟩
   ·cases h
 ·cases h
theorem ZE {P A:List Df} (h:good (P++A)=true):good P=true:=by
 unfold good at h ⊢;simp only[Bool.and_eq_true,decide_eq_true_eq,AV,List.length_append]at h ⊢;exact⟨by omega,h.2.1⟩
theorem afu {P:List Df} {d:Df} (h:good (P++[d])=true):aJ P (iw d)=some (P++[d]):=by
 have hP:=ZE h;have h2:=h;unfold good at h2;simp only[Bool.and_eq_true,decide_eq_true_eq,AV,List.nil_append,dJ,ql,Bool.and_true]at h2;have ht:aS (aO P) d.body=some (d.inn,d.out):=h2.2.2.1.1;have hj:kE P (iw d)=d:=by
  obtain⟨nm,i,o,b⟩:=d;simp only[kE,iw]at ht ⊢;rw[ht];rfl
 unfold aJ;rw[if_pos ⟨hP,by simp[qm,iw];rfl⟩,if_pos (show(iw d).kind=1 from rfl),hj];unfold jG;rw[if_pos hP];unfold cZ;rw[if_pos h]
theorem ZF:∀(A P:List Df),good (P++A)=true->fK P (A.map iw)=some (P++A)
 | [],P,h=>by simp[fK]
 | d::r,P,h=>by
  have h1:good ((P++[d])++r)=true:=by rw[List.append_assoc];exact h
  rw[List.map_cons,fK,afu (ZE h1)];simp only;rw[ZF r (P++[d]) h1,List.append_assoc];rfl
def H9 (d:Df):Nat:=12*d.body.length+23
def uX (e:En):Nat:=12*e.body.length+23
def n_ (L:List Df):Nat:=(L.map H9).sum
def oq (es:List En):Nat:=(es.map uX).sum
theorem ZG:∀(L:List Df) (k:Nat),n_ (L.eraseIdx k)<=n_ L
 | [],k=>by simp[n_]
 | d::r,0=>by simp[n_]
 | d::r,k+1=>by
  have:=ZG r k;simp only[n_,List.eraseIdx_cons_succ,List.map_cons,List.sum_cons]at this ⊢;omega
theorem afv {L R:List Df} {e:En} (h:aJ L e=some R):n_ R<=n_ L+uX e:=by
 obtain⟨_,_,hc⟩:=LH h;rcases hc with⟨k1,he,hn,hf,x,hx,hR⟩|⟨k2,he,hn,hR⟩|⟨k3,he,hn,ht,hR⟩
 ·rw[hR];simp[n_,H9,uX]
 ·rw[hR];have:=ZG L (eY e.name L 0).toNat
  omega
 ·rw[hR];have:(L.map (ig e.name e.to)).map H9=L.map H9:=by
   rw[List.map_map];apply List.map_congr_left;intro d _;simp[H9,ig]
  unfold n_;rw[this];omega
theorem Yz:∀(es:List En) (L R:List Df),fK L es=some R->n_ R<=n_ L+oq es
 | [],L,R,h=>by
  simp only[fK,Option.some.injEq]at h;subst h;simp[oq]
 | e::r,L,R,h=>by
  simp only[fK]at h;cases ha:aJ L e with
  | none=>rw[ha]at h;cases h
  | some R1 =>
   rw[ha]at h
   have h1:=afv ha
   have h2:=Yz r R1 R h
   simp only[oq,List.map_cons,List.sum_cons]at h2 ⊢
   omega
theorem afw (X:ByteArray):(Lib.decDigits (fO X).toNat).length<=5:=by
 have hb:=D_ X;obtain⟨u,hu⟩:∃u:Nat,u=(fO X).toNat:=⟨_,rfl⟩
 rw[<-hu];have h:u<=65520:=by omega
 clear hu hb;by_cases h1:u<10
 ·rw[Lib.decDigits,dif_pos h1];simp
 rw[Lib.decDigits,dif_neg h1,List.length_append];by_cases h2:u / 10<10
 ·rw[Lib.decDigits,dif_pos h2];simp
 rw[Lib.decDigits,dif_neg h2,List.length_append];by_cases h3:u / 10 / 10<10
 ·rw[Lib.decDigits,dif_pos h3];simp
 rw[Lib.decDigits,dif_neg h3,List.length_append];by_cases h4:u / 10 / 10 / 10<10
 ·rw[Lib.decDigits,dif_pos h4];simp
 rw[Lib.decDigits,dif_neg h4,List.length_append,Lib.decDigits,dif_pos (by omega)];simp
theorem afx {L:List Df} {ns:List Nd} {x:W2} (hg:good L=true) (h:aS (aO L) ns=some x):(aV false (qE ns)).size<=12*ns.length:=by
 obtain⟨t,ht,hok,hct⟩:=LG (λd hd=>qV (wB hg d hd)) h;have h1:=ou false t hok;have h2:=H_ ns [] ht;rw[EK ht];simp[ni]at h2;omega
theorem afm (X:ByteArray):X.size<=(bT X).length:=by
 have:X.data.toList.length=X.size:=by simp
 unfold bT;rw[List.length_append];omega
theorem Zv {L R:List Df} {e:En} (h:aJ L e=some R):(bT (aH e)).length+1<=uX e+8:=by
 obtain⟨hg,_,hc⟩:=LH h;have hd:=afw (aH e);have hs:(bT (aH e)).length=(aH e).size+2+(Lib.decDigits (fO (aH e)).toNat).length:=by
  have:(aH e).data.toList.length=(aH e).size:=by simp
  simp[bT];omega
 have ht:(aH e).size+2+5+1<=uX e+8:=by
  unfold aH uX;rcases hc with⟨k1,he,hn,hf,x,hx,hR⟩|⟨k2,he,hn,hR⟩|⟨k3,he,hn,ht,hR⟩
  ·have h1:=afx hg hx;have h2:=qV hn;rw[if_pos k1,bsize,bsize,bsize,show Ia.size=4 from rfl,show kT.size=3 from rfl];omega
  ·have h2:=qV hn;rw[if_neg (by omega),if_pos k2,bsize,show Ib.size=5 from rfl];omega
  ·have h2:=qV hn;have h3:=qV ht;rw[if_neg (by omega),if_neg (by omega),bsize,bsize,bsize,show bName.size=5 from rfl,show iH.size=1 from rfl];omega
 omega
theorem ZH:∀(es:List En) (L R:List Df),fK L es=some R->(eP es).length<=oq es+8*es.length
 | [],L,R,h=>by simp[eP]
 | e::r,L,R,h=>by
  simp only[fK]at h;cases ha:aJ L e with
  | none=>rw[ha]at h;cases h
  | some R1 =>
   rw[ha]at h
   have h1:=Zv ha
   have h2:=ZH r R1 R h
   rw[FI]
   simp only[oq,List.map_cons,List.sum_cons,List.length_append,List.length_cons]at h2 ⊢
   omega
theorem afy (L:List Df):oq (L.map iw)=n_ L:=by
 simp only[oq,n_,List.map_map];rfl
theorem aez {L:List Df} (hg:good L=true) (hc:n_ L<=59000):∃s,iI (L.map iw)=some s/\s=bytesOf (eP (L.map iw))/\fK [] (L.map iw)=some L:=by
 have hf:=ZF L [] hg;rw[List.nil_append]at hf;have hl:=tK hg;have hr:=ZH _ _ _ hf;rw[afy,List.length_map]at hr;refine⟨_,?_,rfl,hf⟩;unfold iI;rw[if_pos (by rw[List.length_map];omega),SA,hf];simp only[Option.map_some];have e:(⟨#[]⟩:ByteArray)++bytesOf (eP (L.map iw))=bytesOf (eP (L.map iw)):=by simp[ByteArray.ext_iff]
 rw[e,if_pos (by simp[bytesOf,ByteArray.size];omega)]
end Go.Proofs.YtikgblkfmpecfaaGreatDoor
