/-
  Journals recovered. No program in sight. Own work.
-/
import Derived.Test.YtikgblkfmpecfaaGreatDoorWLW
import Derived.Lib.LastIndexLaws
import Derived.Test.YtikgblkfmpecfaaGreatDoorWPeJ
import Derived.Test.YtikgblkfmpecfaaGreatDoorWY
set_option linter.all false
set_option maxRecDepth 100000
set_option maxHeartbeats 8000000
namespace Go.Proofs.YtikgblkfmpecfaaGreatDoor
open Go.RowKit
def sO (L:List Df) (X line:ByteArray):Option (List Df):=match jR L X with
 | none=>none
 | some e=>if dV X=line then aJ L e else none
def kJ (L:List Df) (x:List UInt8):Option (List Df) :=
 if Lib.lastIndex x [32,35]<0 then none else sO L (bytesOf (x.take (Lib.lastIndex x [32,35]).toNat)) (bytesOf (x++[10]))
def mg (l:List UInt8):Nat->Nat
 | 0=>0
 | k+1=>if l[k+1]?=some 35 then k+1 else mg l k
def stepM (L:List Df) (x:List UInt8):Option (List Df) :=
 if mg (x++[10]) x.length=0 then none else sO L (bytesOf ((x++[10]).take (mg (x++[10]) x.length-1))) (bytesOf (x++[10]))
theorem Sv {L R:List Df} {X line:ByteArray} (h:sO L X line=some R):dV X=line/\∃e,jR L X=some e/\aJ L e=some R:=by
 unfold sO at h;cases he:jR L X with
 | none=>rw[he]at h;cases h
 | some e =>
  rw[he]at h
  simp only at h
  split at h
  ·rename_i ht;exact⟨ht,e,rfl,h⟩
  ·cases h
theorem ZR (l:List UInt8) (j:Nat) (hj:l[j]?=some 35) (h0:0<j):∀k,j<=k->(∀i,j<i->i<=k->l[i]?≠some 35)->mg l k=j
 | 0,h,_=>by omega
 | k+1,h,hn=>by
  unfold mg;rcases Nat.lt_or_ge k j with hk|hk
  ·obtain rfl:j=k+1:=by omega
   rw[if_pos hj]
  ·rw[if_neg (hn (k+1) (by omega) (Nat.le_refl _))];exact ZR l j hj h0 k hk (λi h1 h2=>hn i h1 (by omega))
theorem ZT (s sub:List UInt8) (j:Nat) (hj:Lib.occAt s sub j=true):∀k,j<k->(∀i,j<i->i<k->Lib.occAt s sub i=false)->Lib.lastOcc s sub k=j
 | 0,h,_=>by omega
 | k+1,h,hn=>by
  rcases Nat.lt_or_ge j k with hk|hk
  ·rw[Lib.lastOcc_miss s sub k (hn k hk (Nat.lt_succ_self _))];exact ZT s sub j hj k hk (λi h1 h2=>hn i h1 (by omega))
  ·obtain rfl:j=k:=by omega
   exact Lib.lastOcc_hit s sub j hj
theorem afX (u:Nat):∀b∈Lib.decDigits u,b≠32/\b≠35:=by
 have one:∀v:Nat,v<10->UInt8.ofNat (48+v)≠32/\UInt8.ofNat (48+v)≠35:=by
  intro v hv;constructor
  ·intro h;have:=congrArg UInt8.toNat h;simp at this;omega
  ·intro h;have:=congrArg UInt8.toNat h;simp at this;omega
 induction u using Nat.strongRecOn with
 | _ u ih =>
  intro b hb
  by_cases h:u<10
  ·rw[Lib.decDigits,dif_pos h]at hb
   simp only[List.mem_singleton]at hb
   subst hb
   exact one u h
  ·rw[Lib.decDigits,dif_neg h]at hb
   rcases List.mem_append.1 hb with hb|hb
   ·exact ih (u / 10) (by omega) b hb
   ·simp only[List.mem_singleton]at hb
    subst hb
    exact one _ (by omega)
theorem ZC {X:ByteArray} {x:List UInt8} (h:dV X=bytesOf (x++[10])) :
  Lib.lastIndex x [32,35]=(X.size:Int)/\mg (x++[10]) x.length=X.size+1/\bytesOf (x.take X.size)=X/\bytesOf ((x++[10]).take X.size)=X:=by
 have hl:X.data.toList++([32,35]++(Lib.decDigits (fO X).toNat++[10]))=x++[10]:=by
  have:=congrArg (λb:ByteArray=>b.data.toList) h;simpa[dV,bytesOf,LV,LW,eG]using this
 have hd:=afX (fO X).toNat
 generalize Lib.decDigits (fO X).toNat=D at hl hd;have hx:x=X.data.toList++([32,35]++D):=by
  have:=congrArg List.dropLast hl;simp only[List.dropLast_concat]at this;rw[<-this];have e:X.data.toList++([32,35]++(D++[10]))=(X.data.toList++([32,35]++D))++[10]:=by simp
  rw[e,List.dropLast_concat]
 have hsz:X.data.toList.length=X.size:=by simp
 subst hx;have hX:bytesOf X.data.toList=X:=by cases X;rfl
 have get:∀i,X.size+2<=i->∀c,(X.data.toList++([32,35]++D))[i]?=some c->c≠32/\c≠35:=by
  intro i hi c hc;rw[List.getElem?_append_right (by omega),List.getElem?_append_right (by simp;omega)]at hc;exact hd c (List.mem_of_getElem? hc)
 refine⟨?_,?_,?_,?_⟩
 ·unfold Lib.lastIndex;rw[if_pos (by simp only[List.length_append,List.length_cons,List.length_nil];omega)];refine ZT _ _ X.size ?_ _ (by simp only[List.length_append,List.length_cons,List.length_nil];omega) ?_
  ·unfold Lib.occAt;rw[<-hsz,List.drop_left];rfl
  ·intro i h1 h2;cases ho:Lib.occAt (X.data.toList++([32,35]++D)) [32,35] i with
   | false=>rfl
   | true =>
    obtain⟨r,hr⟩:=List.isPrefixOf_iff_prefix.1 (by unfold Lib.occAt at ho;exact ho)
    have g0:(X.data.toList++([32,35]++D))[i]?=some 32:=by
     have:=congrArg (λl:List UInt8=>l[0]?) hr;simp only[List.getElem?_drop,Nat.add_zero]at this;rw[<-this];rfl
    rcases Nat.lt_or_ge i (X.size+2)with h3|h3
    ·obtain rfl:i=X.size+1:=by omega
     rw[List.getElem?_append_right (by omega),show X.size+1-X.data.toList.length=1 by omega]at g0
     simp at g0
    ·exact absurd rfl (get i h3 32 g0).1
 ·refine ZR _ (X.size+1) ?_ (by omega) _ (by simp only[List.length_append,List.length_cons,List.length_nil];omega) ?_
  ·rw[List.append_assoc,List.getElem?_append_right (by omega),show X.size+1-X.data.toList.length=1 by omega];simp
  ·intro i h1 h2 hc;rcases Nat.lt_or_ge i (X.data.toList++([32,35]++D)).length with h3|h3
   ·rw[List.getElem?_append_left h3]at hc;exact absurd rfl (get i (by omega) 35 hc).2
   ·rw[List.getElem?_append_right h3,Nat.le_antisymm h2 h3,Nat.sub_self]at hc;simp at hc
 ·rw[<-hsz,List.take_left,hX]
 ·rw[List.append_assoc,<-hsz,List.take_left,hX]
theorem step_eq (L:List Df) (x:List UInt8):stepM L x=kJ L x:=by
 have key:∀{X:ByteArray} {R:List Df},sO L X (bytesOf (x++[10]))=some R->stepM L x=some R/\kJ L x=some R:=by
  intro X R h;obtain⟨h1,h2,h3,h4⟩:=ZC (Sv h).1;refine⟨?_,?_⟩
  ·unfold stepM;rw[h2,if_neg (by omega),Nat.add_sub_cancel,h4,h]
  ·unfold kJ;rw[h1,if_neg (by omega),Int.toNat_natCast,h3,h]
 cases h1:stepM L x with
 | some R =>
  have h:=h1
  unfold stepM at h
  split at h
  ·cases h
  ·exact(key h).2.symm
 | none =>
  cases h2:kJ L x with
  | none=>rfl
  | some R =>
   have h:=h2
   unfold kJ at h
   split at h
   ·cases h
   ·have:=(key h).1
    rw[h1]at this
    exact this
def nextL (L:List Df) (l:List UInt8):Option (List Df×Nat):=if(Lib.cut l [10]).2.2=true then(kJ L (Lib.cut l [10]).1).map (λR=>(R,(Lib.cut l [10]).1.length+1))else none
def eU:Nat->List Df->List UInt8->Nat->Nat->List Df×Nat×Nat
 | 0,L,_,n,b=>(L,n,b)
 | f+1,L,l,n,b=>match nextL L l with
  | none=>(L,n,b)
  | some (R,c)=>eU f R (l.drop c) (n+1) (b+c)
def aT (s:ByteArray):List Df×Nat×Nat:=eU 60 [] s.data.toList 0 0
theorem ZU {L R:List Df} {l:List UInt8} {c:Nat} (h:nextL L l=some (R,c)):good R=true/\1<=c/\c<=l.length:=by
 unfold nextL at h;split at h
 ·rename_i hf
  cases hs:kJ L (Lib.cut l [10]).1 with
  | none=>rw[hs]at h;cases h
  | some R' =>
   rw[hs]at h
   simp only[Option.map_some,Option.some.injEq,Prod.mk.injEq]at h
   obtain⟨rfl,rfl⟩:=h
   refine⟨?_,by omega,?_⟩
   ·unfold kJ at hs
    split at hs
    ·cases hs
    ·obtain⟨_,e,_,h3⟩:=Sv hs
     exact xE h3
   ·rcases sD 10 l with⟨h1,_⟩|⟨x,r,h1,_,h3⟩
    ·rw[h1]at hf;cases hf
    ·rw[h3];subst h1;simp
 ·cases h
theorem ZV:∀(f:Nat) (L:List Df) (l:List UInt8) (n b:Nat),good L=true->good (eU f L l n b).1=true/\(eU f L l n b).2.1<=n+f/\(eU f L l n b).2.2<=b+l.length
 | 0,L,l,n,b,hg=>⟨hg,Nat.le_refl _,Nat.le_add_right _ _⟩
 | f+1,L,l,n,b,hg=>by
  unfold eU;cases hn:nextL L l with
  | none=>exact⟨hg,by simp,by simp⟩
  | some x =>
   obtain⟨R,c⟩:=x
   obtain⟨h1,h2,h3⟩:=ZU hn
   obtain⟨a1,a2,a3⟩:=ZV f R (l.drop c) (n+1) (b+c) h1
   simp only[List.length_drop]at a3
   exact⟨a1,by simp only;omega,by simp only;omega⟩
theorem qQ (s:ByteArray):good (aT s).1=true/\(aT s).2.1<=60/\(aT s).2.2<=s.size:=by
 have h:=ZV 60 [] s.data.toList 0 0 (by decide);unfold aT;refine⟨h.1,by omega,?_⟩;have:=h.2.2;simp at this;simpa using this
def rH (b:Nat) (w:World) (v:Value) (L:List Df) (n k:Nat):Prop :=
 w.cell? ⟨b,0,none⟩=some v/\w.cell? ⟨b,1,none⟩=some (.int .i64 (n:Int))/\w.cell? ⟨b,2,none⟩=some (.int .i64 (k:Int))/\(∀j,w.frozen? ⟨b,j,none⟩=false)/\aG w v L
def L_ (b n k:Nat) (o:Option (List Df×Nat)) (w:World) (e:Ending) (w':World):Prop :=
 match o with
 | none=>e=.returned (.bool false)/\Below w.heap.size w w'
 | some x=>e=.returned (.bool true)/\∃v',ah (λj=>j=b) w w'/\rH b w' v' x.1 (n+1) (k+x.2)/\cu w' w.heap.size v' x.1
theorem rH.keep {b:Nat} {w w':World} {v:Value} {L:List Df} {n k:Nat} (hb:Below w.heap.size w w') (h:rH b w v L n k):rH b w' v L n k:=by
 obtain⟨c0,c1,c2,cf,hv⟩:=h;have hlt:=cell_lt c0;exact⟨ak hb c0,ak hb c1,ak hb c2,λj=>(hb.frozen (p:=⟨b,j,none⟩) hlt).trans (cf j),hv.keep hb⟩
theorem afY (s sub:ByteArray) (hs:s.size<4611686018427387904) (w:World) :
  Calls Tryz.prog 170 #[.string s,.string sub] w λe w'=>e=.returned (.int .i64 (Lib.lastIndex s.data.toList sub.data.toList))/\w'=w:=Any.strings_LastIndex Tryz.lays148 s sub hs w
theorem Mc {t:ByteArray} {i:Int} {w:World} (hs:t.size<=4194304) (h:Lib.lastIndex t.data.toList [32,35]=i) :
  Calls Tryz.prog 170 #[.string t,.string ⟨#[32,35]⟩] w λe w'=>e=.returned (.int .i64 i)/\w'=w:=by
 refine(afY t ⟨#[32,35]⟩ (by omega) w).mono ?_;rintro e w'⟨rfl,rfl⟩;rw[show(⟨#[32,35]⟩:ByteArray).data.toList=[32,35]from rfl,h];exact⟨rfl,rfl⟩
theorem SS (b:Nat) (v:Value) (L:List Df) (n k:Nat) (s line rest:ByteArray) (li:Int) (w:World) (hr:rH b w v L n k) (hg:good L=true) (ht:dF w) (hp:iM w) (hs:s.size<=60000) (hk:k<=s.size) (hz:line.size<=60000) (found:Bool)
  (hc:∀w1,dF w1->Calls Tryz.prog 127 #[.string (s.extract k s.size),.string ⟨#[10]⟩] w1 λe w'=>e=.returned (.tuple #[.string line,.string rest,.bool found])/\Below w1.heap.size w1 w')
  (hl:Lib.lastIndex line.data.toList [32,35]=li) (hcond:found=false\/(found=true/\li<0)\/(found=true/\¬li<0/\n=60)) :
  Calls Tryz.prog 108 #[.pointer (some ⟨b,0,none⟩),.string s] w (L_ b n k none w):=by
 have HC:=Lib.hid hc;have HL:=Lib.hid hl;have hk1:(k:Int)<=(s.size:Int):=by omega
 clear hc hl hg;obtain⟨d0,d1,d2,df,hv⟩:=id hr;rcases hcond with rfl|⟨rfl,h⟩|⟨rfl,h,rfl⟩
 all_goals
  go_enter Tryz.func108,Tryz.ntmps108
  go_wp2_with (first|(go_at_call 127;refine(HC.out _ (ht)).mono ?_;rintro e1 w1⟨rfl,hb1⟩;have hr1:=hr.keep hb1;obtain⟨c0,c1,c2,cf,hv1⟩:=hr1;have hsz1:=hb1.size)|(go_at_call 170;refine(Mc (by omega) HL.out).mono ?_;rintro e8 w8⟨rfl,rfl⟩))
  go_ret
  exact⟨rfl,hb1⟩
theorem ZW (b:Nat) (v:Value) (L:List Df) (n k:Nat) (s line rest:ByteArray) (li:Int) (w:World) (hr:rH b w v L n k) (hg:good L=true) (ht:dF w) (hp:iM w) (hs:s.size<=60000) (hk:k<=s.size) (hz:line.size<=60000) (X:ByteArray)
  (hc:∀w1,dF w1->Calls Tryz.prog 127 #[.string (s.extract k s.size),.string ⟨#[10]⟩] w1 λe w'=>e=.returned (.tuple #[.string line,.string rest,.bool true])/\Below w1.heap.size w1 w')
  (hl:Lib.lastIndex line.data.toList [32,35]=li) (hj0:¬li<0) (hj1:li<=(line.size:Int)) (hX:line.extract 0 li.toNat=X) (Cm:X.size<=60000) (h60:¬n=60)
  (hno:jR L X=none\/∃e,jR L X=some e/\¬dV X=line++⟨#[10]⟩) :
  Calls Tryz.prog 108 #[.pointer (some ⟨b,0,none⟩),.string s] w (L_ b n k none w):=by
 have HC:=Lib.hid hc;have HL:=Lib.hid hl;have HX:=Lib.hid hX;obtain⟨hLo,hLn⟩:=mJ hg;have hk1:(k:Int)<=(s.size:Int):=by omega
 have hj2:0<=li:=by omega
 have Sl:((n:Int)==60)=false:=by rw[beq_eq_false_iff_ne];omega
 have hsum:¬9223372036854775807<line.size+1:=by omega
 have hent:∀(w1:World) (v1:Value),aG w1 v1 L->dF w1->Calls Tryz.prog 23 #[v1,.string X] w1 (ny (jR L X) w1):=λw1 v1 h1 h2=>by
  have:=QX v1 L X w1 h1 hLn hLo h2 (by omega);unfold Ep at this;rwa [if_pos hg]at this
 obtain⟨d0,d1,d2,df,hv⟩:=id hr;rcases hno with hno|⟨e,hno,hne⟩
 ·rw[hno]at hent;have HE:=Lib.hid hent;clear hc hl hX hent hno hg h60;go_enter Tryz.func108,Tryz.ntmps108;go_wp2_with (first|(go_at_call 127;refine(HC.out _ (ht)).mono ?_;rintro e1 w1⟨rfl,hb1⟩;have hr1:=hr.keep hb1;obtain⟨c0,c1,c2,cf,hv1⟩:=hr1;have hsz1:=hb1.size)|(go_at_call 170;refine(Mc (by omega) HL.out).mono ?_;rintro e8 w8⟨rfl,rfl⟩))
  rw[HX.out];refine(HE.out _ _ hv1 (ht.keep hb1)).mono ?_;rintro e2 w2⟨v2,rfl,ho2,hb2⟩;obtain⟨a2,c2,rfl⟩:=ho2.slice;have hB2:=hb1.trans (hb2.mono hsz1);go_wp2;go_ret
  exact⟨rfl,hB2.alloc hB2.size _⟩
 ·rw[hno]at hent;have HE:=Lib.hid hent;have g1:=u_ hne;clear hc hl hX hent hno hg h60 hne;go_enter Tryz.func108,Tryz.ntmps108;go_wp2_with (first|(go_at_call 127;refine(HC.out _ (ht)).mono ?_;rintro e1 w1⟨rfl,hb1⟩;have hr1:=hr.keep hb1;obtain⟨c0,c1,c2,cf,hv1⟩:=hr1;have hsz1:=hb1.size)|(go_at_call 170;refine(Mc (by omega) HL.out).mono ?_;rintro e8 w8⟨rfl,rfl⟩))
  rw[HX.out];refine(HE.out _ _ hv1 (ht.keep hb1)).mono ?_;rintro e2 w2⟨v2,rfl,ho2,hb2⟩;simp only[Option.isSome_some,Option.getD_some]at ho2 ⊢;obtain⟨a2,c2,rfl⟩:=ho2.slice;have hB2:=hb1.trans (hb2.mono hsz1);go_wp2_with fail
  refine(SV X _ (hp.keep (hB2.alloc hB2.size _)) (by omega)).mono ?_;rintro e3 w3⟨rfl,hb3⟩;go_wp2;go_ret
  exact⟨rfl,(hB2.alloc hB2.size _).trans (hb3.mono (by have:=hB2.size;simp;omega))⟩
theorem ZX {L:List Df} {s:ByteArray} {e:En} (hg:good L=true) (hs:s.size<=1048576) (h:jR L s=some e):dW e:=by
 unfold jR at h;have hd:=SN s;cases hr:wC L s.data.toList with
 | none=>rw[hr]at h;cases h
 | some x =>
  rw[hr]at h
  simp only[jh]at h
  split at h
  ·obtain rfl:=Option.some.inj h
   unfold wC at hr
   split at hr
   ·cases hq:dX L (bytesOf (s.data.toList.drop 4))with
    | none=>rw[hq]at hr;cases hr
    | some d=>rw[hq]at hr;obtain rfl:=Option.some.inj hr;exact SQ hg hq
   ·split at hr
    ·obtain rfl:=Option.some.inj hr;exact x9 (by have:=hd 5;omega) (by decide)
    ·split at hr
     ·split at hr
      ·obtain rfl:=Option.some.inj hr
       have h5:=hd 5
       rw[oD]at h5
       refine x9 ?_ ?_
       all_goals
        rw[oD]
        rcases sD 32 (s.data.toList.drop 5)with⟨hc,_⟩|⟨x,r,hxr,_,hc⟩
        ·rw[hc];simp only[List.length_nil];omega
        ·rw[hc]
         have hl:=congrArg List.length hxr
         simp only[List.length_append,List.length_cons]at hl
         simp only
         omega
      ·cases hr
     ·cases hr
  ·cases h
theorem SX (w:World):Below w.heap.size w w.drew:=(Below.refl _ _).drew
theorem afZ (b:Nat) (v:Value) (L:List Df) (n k:Nat) (s line rest:ByteArray) (li:Int) (w:World) (hr:rH b w v L n k) (hg:good L=true) (ht:dF w) (hp:iM w) (hs:s.size<=60000) (hk:k<=s.size) (hz:line.size<=60000) (X:ByteArray) (e:En) (R:List Df)
  (hc:∀w1,dF w1->Calls Tryz.prog 127 #[.string (s.extract k s.size),.string ⟨#[10]⟩] w1 λe w'=>e=.returned (.tuple #[.string line,.string rest,.bool true])/\Below w1.heap.size w1 w')
  (hl:Lib.lastIndex line.data.toList [32,35]=li) (hj0:¬li<0) (hj1:li<=(line.size:Int)) (hX:line.extract 0 li.toNat=X) (Cm:X.size<=60000) (h60:n<60) (hkl:k+(line.size+1)<=s.size)
  (he:jR L X=some e) (hrec:dV X=line++⟨#[10]⟩) (hap:aJ L e=some R) :
  Calls Tryz.prog 108 #[.pointer (some ⟨b,0,none⟩),.string s] w (L_ b n k (some (R,line.size+1)) w):=by
 have HC:=Lib.hid hc;have HL:=Lib.hid hl;have HX:=Lib.hid hX;have HA:=Lib.hid hap;obtain⟨hLo,hLn⟩:=mJ hg;have hee:=ZX hg (by omega) he;have hk1:(k:Int)<=(s.size:Int):=by omega
 have hj2:0<=li:=by omega
 have Sl:((n:Int)==60)=false:=by rw[beq_eq_false_iff_ne];omega
 have hsum:¬9223372036854775807<line.size+1:=by omega
 have hent:∀(w1:World) (v1:Value),aG w1 v1 L->dF w1->Calls Tryz.prog 23 #[v1,.string X] w1 (ny (jR L X) w1):=λw1 v1 h1 h2=>by
  have:=QX v1 L X w1 h1 hLn hLo h2 (by omega);unfold Ep at this;rwa [if_pos hg]at this
 obtain⟨d0,d1,d2,df,hv⟩:=id hr;have hbz:=cell_lt d0;rw[he]at hent;have HE:=Lib.hid hent;have HR:=Lib.hid hrec;have HK:=Lib.hid hkl;have HN:=Lib.hid h60;clear hc hl hX hent he hg h60 hrec hap hkl;go_enter Tryz.func108,Tryz.ntmps108;go_wp2_with (first|(go_at_call 127;refine(HC.out _ (ht)).mono ?_;rintro e1 w1⟨rfl,hb1⟩;have hr1:=hr.keep hb1;obtain⟨c0,c1,c2,cf,hv1⟩:=hr1;have hsz1:=hb1.size)|(go_at_call 170;refine(Mc (by omega) HL.out).mono ?_;rintro e8 w8⟨rfl,rfl⟩))
 rw[HX.out];refine(HE.out _ _ hv1 (ht.keep hb1)).mono ?_;rintro e2 w2⟨v2,rfl,ho2,hb2⟩;simp only[Option.isSome_some,Option.getD_some]at ho2 ⊢;obtain⟨a2,c2',rfl⟩:=ho2.slice;have hB2:=hb1.trans (hb2.mono hsz1);go_wp2_with fail
 refine(SV X _ (hp.keep (hB2.alloc hB2.size _)) (by omega)).mono ?_;rintro e3 w3⟨rfl,hb3⟩;rw[HR.out];have Md:Below (w2.heap.size+1) (w2.alloc (.cells #[.int .i64 e.kind,.string e.name,.string e.to,.slice a2 e.body.length c2'] 45)) w3:=hb3.mono (by simp);obtain⟨y0,y1,y2,y3,hyz,hk3⟩:=kX Md;have hB3:=hB2.trans (hk3.mono hB2.size);have hr3:=hr.keep hB3;have ho3:=ho2.keep hk3;have hz3:=hB3.size;obtain⟨f0,f1,f2,ff,hv3⟩:=id hr3;have ah8:b<w3.heap.size:=by omega
 clear c0 c1 c2 cf d0 d1 d2 df;go_wp2_with fail
 refine Fa (C:=ah (aQ) _) 9 0 [1,2,3,4,5,6,7] [8,9,10,11,12] (.pointer (some ⟨b,0,none⟩)) rfl (by kernel_rfl) (by kernel_rfl) (λ_ _ _ h=>h) (Or.inl ⟨by rfl,λ_=>by go_simp⟩) (ah.grows _ _) (ah.refl _ _) ?_;go_simp;iterate 5 (apply ay rfl rfl rfl;(focus intro u hc' hf';go_simp<;>rfl);intro K hK;go_simp;apply hK;clear hK K)
 refine aX rfl rfl rfl (ah.grows _ _) (ah.refl _ _) 24 (λK hK=>?_);apply Exists.intro;refine⟨λw' hw'=>?_,λwa dU dS=>?_⟩;(focus go_simp;rfl);refine(zC _ _ L e _ ((hv3.keep (SX w3)).keep dS) hLn hLo ((ho3.at.keep (SX w3)).keep dS) hee).mono ?_;rintro e w5⟨v5,rfl,dZ,hb5⟩;refine⟨_,rfl,hb5,λhx=>?_⟩;go_simp;apply hK;clear hK K;rw[HA.out]at dZ ⊢;simp only[Option.getD_some,Option.isSome_some]at dZ ⊢;obtain⟨a5,c5,rfl,_,_⟩:=id dZ.at
 iterate 1 (apply ay rfl rfl rfl;(focus intro u hc' hf';go_simp<;>rfl);intro K hK;go_simp;apply hK;clear hK K)
 refine aK ?_;have vX:Below w3.heap.size w3 w5:=(SX w3).trans ((dS.trans (hb5.mono dS.size)).mono (by simp));have ZY:=hr3.keep vX;have vW:=vX.size;refine⟨ah (λk=>k=b) w5,w5.heap.size,ah.grows _ _,ah.refl _ _,?_⟩;iterate 4 (apply fF rfl rfl rfl;(focus intro u hc' hf';(try simp only[World.size_drew]at hc' hf');go_simp<;>rfl);intro K hK;go_simp;apply hK;clear hK K)
 refine eH rfl rfl rfl (ah.grows _ _) (ah.refl _ _) (λK hK=>?_);intro w10 qN bf;obtain⟨g0,g1,g2,gf,Bq⟩:=ZY.keep bf;have Z4:=gf 0;have ah9:=bf.size;have aia:=cell_lt g0;refine⟨w10.setCell ⟨b,0,none⟩ (.slice a5 R.length c5),?_,⟨aB qN (.inr rfl) _,by simp,λj hj hnb _=>by rw[Below.heap_setCell _ _ _ _ (by show ¬_=_;intro hh;simp only at hh;omega)]⟩,?_⟩
 ·go_simp
 go_simp;refine hK _ _ _ ?_;clear hK K;refine aK ?_;have hE:ah (λj=>j=b) w w10:=(Below.exc (hB3.trans ((vX.trans (bf.mono vW)).mono hz3)))
 obtain⟨W,hW⟩:∃W,W=w10.setCell ⟨b,0,none⟩ (.slice a5 R.length c5):=⟨_,rfl⟩
 have m0:W.cell? ⟨b,0,none⟩=some (.slice a5 R.length c5):=by rw[hW];clear hW;go_simp
 have m1:W.cell? ⟨b,1,none⟩=some (.int .i64 (n:Int)):=by rw[hW];clear hW;go_simp
 have m2:W.cell? ⟨b,2,none⟩=some (.int .i64 (k:Int)):=by rw[hW];clear hW;go_simp
 have mf:∀j,W.frozen? ⟨b,j,none⟩=false:=λj=>by rw[hW];have:=gf j;clear hW;go_simp
 have Ac:ah (λj=>j=b) w W:=by rw[hW];exact aB hE (.inr rfl) _
 have nD:cu W w.heap.size (.slice a5 R.length c5) R:=by
  rw[hW];obtain⟨xs,hx,hrow⟩:=dZ.keep bf;exact⟨xs,hx,((bP.exc (show bP _ _ _ xs from hrow) (aB (T:=λj=>j=b) (ah.refl _ w10) (.inr rfl) (a:=⟨b,0,none⟩) _) (λj hj=>by have:=dS.size;simp at this;omega)).mono (by have:=dS.size;simp at this;omega))⟩
 rw[<-hW];have e1:IntKind.i64.wrap ((n:Int)+1)=(n:Int)+1:=IntWalk.i64_in _ (by have:=HN.out;omega);have e2:IntKind.i64.wrap ((line.size:Int)+1)=(line.size:Int)+1:=IntWalk.i64_in _ (by omega);have e3:IntKind.i64.wrap ((k:Int)+((line.size:Int)+1))=(k:Int)+((line.size:Int)+1):=IntWalk.i64_in _ (by omega);have mbz:=cell_lt m0;have mf1:=mf 1;have mf2:=mf 2;clear hW g0 g1 g2 gf Z4 Bq qN bf hE dZ hb5 dS dU hx ZY hr3 f0 f1 f2 ff hv3 y0 y1 y2 y3 ho3 ho2 hb3 hk3 Md;go_wp2;go_ret
 have hlow:∀(j:Nat) (u:Value) (W':World),cu W' w.heap.size (.slice a5 R.length c5) R->cu (W'.setCell ⟨b,j,none⟩ u) w.heap.size (.slice a5 R.length c5) R:=by
  intro j u W' h;obtain⟨xs,hx,hrow⟩:=h;exact⟨xs,hx,bP.exc (show bP _ _ _ xs from hrow) (aB (T:=λj=>j=b) (ah.refl _ W') (.inr rfl) (a:=⟨b,j,none⟩) u) (λj hj=>by omega)⟩
 refine⟨rfl,_,aB (aB Ac (.inr rfl) _) (.inr rfl) _,⟨?_,?_,?_,?_,?_⟩,hlow _ _ _ (hlow _ _ _ nD)⟩
 ·go_simp
 ·go_simp
 ·go_simp
 ·intro j;have:=mf j;go_simp
 ·exact(hlow _ _ _ (hlow _ _ _ nD)).at
theorem af0 (s sub:List UInt8):Lib.lastIndex s sub<=(s.length:Int):=by
 unfold Lib.lastIndex;split
 ·rcases Lib.lastOcc_spec s sub (s.length-sub.length+1)with⟨e,_⟩|⟨i,hi,e,_⟩
  ·omega
  ·omega
 ·omega
theorem OD (x:List UInt8) (j:Nat):(bytesOf x).extract 0 j=bytesOf (x.take j):=by
 rw[<-Ea,xP,List.drop_zero];rfl
theorem Z5 (x:List UInt8):bytesOf (x++[10])=bytesOf x++⟨#[10]⟩:=by
 apply ByteArray.ext;simp[bytesOf]
theorem next_any (b:Nat) (v:Value) (L:List Df) (n k:Nat) (s:ByteArray) (w:World) (hr:rH b w v L n k) (hg:good L=true) (ht:dF w) (hp:iM w) (hs:s.size<=60000) (hk:k<=s.size) (hn:n<=60) :
  Calls Tryz.prog 108 #[.pointer (some ⟨b,0,none⟩),.string s] w (L_ b n k (if n=60 then none else nextL L (s.data.toList.drop k)) w):=by
 have hT:(s.extract k s.size).data.toList=s.data.toList.drop k:=by
  have:=xP s k s.size;rw[List.take_of_length_le (by simp)]at this;exact this
 have hTz:(s.extract k s.size).size<=60000:=by
  have:(s.extract k s.size).data.toList.length=s.size-k:=by rw[hT];simp
  simp at this;have h2:(s.extract k s.size).size=(s.extract k s.size).data.size:=rfl;simp;omega
 rcases sD 10 (s.data.toList.drop k)with⟨hc,_⟩|⟨x,r,hxr,_,hc⟩
 ·have hnx:nextL L (s.data.toList.drop k)=none:=by unfold nextL;rw[hc];simp
  rw[hnx,ite_self];exact SS b v L n k s (s.extract k s.size) ⟨#[]⟩ _ w hr hg ht hp hs hk hTz false (λw1 h1=>XP h1 (by omega) (by rw[hT];exact hc)) rfl (.inl rfl)
 ·have hxl:x.length+1<=s.size-k:=by have:=congrArg List.length hxr;simp at this;omega
  have hz:(bytesOf x).size<=60000:=by rw[oD];omega
  have hcy:∀w1,dF w1->Calls Tryz.prog 127 #[.string (s.extract k s.size),.string ⟨#[10]⟩] w1 λe w'=>e=.returned (.tuple #[.string (bytesOf x),.string (bytesOf r),.bool true])/\Below w1.heap.size w1 w':=λw1 h1=>XQ h1 (by omega) (by rw[hT];exact hc);have hnx:nextL L (s.data.toList.drop k)=(kJ L x).map (λR=>(R,x.length+1)):=by unfold nextL;rw[hc];simp
  rw[hnx];have hbx:(bytesOf x).data.toList=x:=by simp[bytesOf]
  obtain⟨li,zQ⟩:∃li,Lib.lastIndex x [32,35]=li:=⟨_,rfl⟩
  have hle:=af0 x [32,35];rw[zQ]at hle;by_cases h0:li<0
  ·have hst:kJ L x=none:=by unfold kJ;rw[zQ,if_pos h0]
   rw[hst,Option.map_none,ite_self];exact SS b v L n k s _ _ li w hr hg ht hp hs hk hz true hcy (by rw[hbx,zQ]) (.inr (.inl ⟨rfl,h0⟩))
  by_cases h60:n=60
  ·rw[if_pos h60];exact SS b v L n k s _ _ li w hr hg ht hp hs hk hz true hcy (by rw[hbx,zQ]) (.inr (.inr ⟨rfl,h0,h60⟩))
  rw[if_neg h60];have hst:kJ L x=sO L (bytesOf (x.take li.toNat)) (bytesOf (x++[10])):=by unfold kJ;rw[zQ,if_neg h0]
  have hX:=OD x li.toNat
  have Cm:(bytesOf (x.take li.toNat)).size<=60000:=by rw[oD];simp;omega
  rw[hst];unfold sO;cases he:jR L (bytesOf (x.take li.toNat))with
  | none=>exact ZW b v L n k s _ _ li w hr hg ht hp hs hk hz _ hcy (by rw[hbx,zQ]) h0 (by rw[oD];exact hle) hX Cm h60 (.inl he)
  | some e =>
   simp only
   by_cases heq:dV (bytesOf (x.take li.toNat))=bytesOf (x++[10])
   ·rw[if_pos heq]
    obtain⟨R,hR,_⟩:=Qq he
    rw[hR]
    have:=afZ b v L n k s _ _ li w hr hg ht hp hs hk hz _ e R hcy (by rw[hbx,zQ]) h0 (by rw[oD];exact hle) hX Cm (by omega) (by rw[oD];omega) he (by rw[heq,Z5]) hR
    rw[oD]at this
    exact this
   ·rw[if_neg heq]
    exact ZW b v L n k s _ _ li w hr hg ht hp hs hk hz _ hcy (by rw[hbx,zQ]) h0 (by rw[oD];exact hle) hX Cm h60 (.inr ⟨e,he,by rw[<-Z5];exact heq⟩)
theorem CB {w w':World} {a b c:Value} {t:TypeId} (hb:Below (w.heap.size+1) (w.alloc (.cells #[a,b,c] t)) w') :
  w'.cell? ⟨w.heap.size,0,none⟩=some a/\w'.cell? ⟨w.heap.size,1,none⟩=some b/\w'.cell? ⟨w.heap.size,2,none⟩=some c/\(∀j,w'.frozen? ⟨w.heap.size,j,none⟩=false)/\w.heap.size<w'.heap.size/\Below w.heap.size w w':=by
 refine⟨?_,?_,?_,λj=>?_,by have:=hb.size;simp at this;omega,(aj _ _).trans (hb.mono (by omega))⟩
 ·rw[hb.cell (p:=⟨w.heap.size,0,none⟩) (by simp)];simp
 ·rw[hb.cell (p:=⟨w.heap.size,1,none⟩) (by simp)];simp
 ·rw[hb.cell (p:=⟨w.heap.size,2,none⟩) (by simp)];simp
 ·rw[hb.frozen (p:=⟨w.heap.size,j,none⟩) (by simp)];simp
theorem Ie {L:List Df} {l:List UInt8} {n b:Nat} (h:nextL L l=none):∀f,eU f L l n b=(L,n,b)
 | 0=>rfl
 | f+1=>by unfold eU;rw[h]
theorem Z7 {L R:List Df} {l:List UInt8} {n b c f:Nat} (h:nextL L l=some (R,c)):eU (f+1) L l n b=eU f R (l.drop c) (n+1) (b+c):=by
 conv=>lhs;unfold eU
 rw[h]
def leftOf (w:World) (b:Nat):Nat:=match w.cell? ⟨b,1,none⟩with
 | some (.int _ n)=>60-n.toNat
 | _=>0
theorem Me {w:World} {b n:Nat} {v:Value} {L:List Df} {k:Nat} (h:rH b w v L n k):leftOf w b=60-n:=by
 unfold leftOf;rw[h.2.1];simp
def Z8 (R:List Df×Nat×Nat) (w:World) (e:Ending) (w':World):Prop :=
 ∃v,e=.returned (.agg #[v,.int .i64 (R.2.1:Int),.int .i64 (R.2.2:Int)])/\cu w' w.heap.size v R.1/\Below w.heap.size w w'
theorem jQ {w:World} {B a j:Nat} {v u:Value} {L:List Df} (h:cu w B v L) (ha:a<B):cu (w.setCell ⟨a,j,none⟩ u) B v L:=by
 obtain⟨xs,hx,hrow⟩:=h;exact⟨xs,hx,bP.exc (show bP _ _ _ xs from hrow) (aB (T:=λj=>j=a) (ah.refl _ w) (.inr rfl) (a:=⟨a,j,none⟩) u) (λj hj=>by omega)⟩
theorem af2 (w:World):cu (w.alloc (.cells #[] 101)) w.heap.size (.slice (some ⟨w.heap.size,0,none⟩) 0 0) []:=by
 refine⟨[],rfl,?_,by simp,List.Pairwise.nil⟩;have:=World.ownsRow_made (base:=w.heap.size) (size:=4) (e:=101) w #[] 0 (Nat.le_refl _) (by unfold maxLen;omega) rfl;simpa using this
def af4 (s:ByteArray) (R:List Df×Nat×Nat) (w wr:World) (n k:Nat) (L:List Df) (v:Value):Prop :=
 rH (w.heap.size+1+1) wr v L n k/\cu wr (w.heap.size+1) v L/\good L=true/\n<=60/\k<=s.size/\Hid (R=eU (60-n) L (s.data.toList.drop k) n k)/\Below (w.heap.size+1) (w.alloc (.cells #[.slice none 0 0,.int .i64 0,.int .i64 0] 97)) wr
theorem FN (s:ByteArray) (w:World) (ht:dF w) (hp:iM w) (hs:s.size<=60000) :
  Calls Tryz.prog 59 #[.string s] w (Z8 (aT s) w):=by
 obtain⟨R,hR⟩:∃R,aT s=R:=⟨_,rfl⟩
 rw[hR];have H0:Hid (R=eU (60-0) [] (s.data.toList.drop 0) 0 0):=hR.symm;clear hR;go_enter Tryz.func59,Tryz.ntmps59;go_wp2;go_loopw [6] (λ_ wr=>∃(n k:Nat) (L:List Df) (v:Value),af4 s R w wr n k L v) (λ_ wr=>leftOf wr (w.heap.size+1+1))
 case atStart =>
  obtain⟨a0,a1,a2,af,_⟩:=CB (w:=(w.alloc (.cells #[.slice none 0 0,.int .i64 0,.int .i64 0] 97)).alloc (.cells #[] 101)) (a:=.slice (some ⟨w.heap.size+1,0,none⟩) 0 0) (b:=.int .i64 0) (c:=.int .i64 0) (t:=97) (Below.refl _ _)
  simp only[World.size_alloc]at a0 a1 a2 af
  refine⟨0,0,[],.slice (some ⟨w.heap.size+1,0,none⟩) 0 0,⟨a0,a1,a2,af,⟨_,_,rfl,Nat.zero_le _,λi hi=>absurd hi (Nat.not_lt_zero _)⟩⟩,?_,by decide,by omega,Nat.zero_le _,H0,?_⟩
  ·have:=(af2 (w.alloc (.cells #[.slice none 0 0,.int .i64 0,.int .i64 0] 97))).keep (aj _ (.cells #[.slice (some ⟨w.heap.size+1,0,none⟩) 0 0,.int .i64 0,.int .i64 0] 97))
   simpa using this
  ·exact((Below.refl (w.heap.size+1) (w.alloc (.cells #[.slice none 0 0,.int .i64 0,.int .i64 0] 97))).alloc (by simp) _).alloc (by simp) _
 case round =>
  obtain⟨n,k,L,v,hr,hown,hgd,hn,hk,HR,hbel⟩:=hrel
  obtain⟨r0,r1,r2,rf,hz,hbw⟩:=CB hbel
  have hnx:=next_any _ v L n k s wr hr hgd (ht.keep hbw) (hp.keep hbw) hs hk hn
  obtain⟨av,cv,rfl,_,_⟩:=id hr.2.2.2.2
  have hlo:=Me hr
  have hzz:=hbel.size
  simp only[World.size_alloc]at hzz
  obtain⟨be,hbe⟩:∃be,be=w.heap.size+1+1:=⟨_,rfl⟩
  rw[<-hbe]at hr hnx hlo ⊢
  have hn1:¬w.heap.size=be:=by omega
  have hn2:¬be=w.heap.size:=by omega
  have hn3:w.heap.size+1<=be:=by omega
  cases hq:(if n=60 then none else nextL L (s.data.toList.drop k))with
  | none =>
   rw[hq]at hnx
   have HE:Hid (R=(L,n,k)):=(show _=_ by
    rw[HR.out];by_cases h60:n=60
    ·rw[h60];rfl
    ·rw[if_neg h60]at hq;exact Ie hq _)
   have HN:=Lib.hid hnx
   clear hq hnx HR hgd hlo hbe
   go_wp2_with (go_at_call 108;refine HN.out.mono ?_;rintro e w2⟨rfl,hb2⟩;obtain⟨c0,c1,c2,cf,hv2⟩:=hr.keep hb2;have hB2:=hbel.trans (hb2.mono hzz);clear r0 r1 r2 rf hz hbw;obtain⟨r0,r1,r2,rf,hz,hbw⟩:=CB hB2;have ho2:=hown.keep hb2;have hbz:=cell_lt c0)
   refine bodyPost_ret (v:=.agg #[.slice av L.length cv,.int .i64 (n:Int),.int .i64 (k:Int)]) (by simp[results,Tryz.results59,go_sem,r0,r1,r2,rf,hz]) rfl ?_
   rw[HE.out]
   have hl:w.heap.size<w.heap.size+1:=Nat.lt_succ_self _
   refine⟨_,rfl,(jQ (jQ (jQ ho2 hl) hl) hl).mono (by omega),?_⟩
   (repeat(first|(with_reducible refine Below.alloc ?_ ?_ _;rotate_left;(first|omega|(simp;done)|(simp;omega)))|(with_reducible refine Below.setCell ?_ ?_ _;rotate_left;(first|exact Nat.le_refl _|(simp;done)|(simp;omega)))|(with_reducible refine Below.drew ?_)));exact hbw
  | some x =>
   have h60:¬n=60:=λe=>by rw[if_pos e]at hq;cases hq
   rw[hq]at hnx
   rw[if_neg h60]at hq
   obtain⟨q1,q2,q3⟩:=ZU hq
   have hk2:k+x.2<=s.size:=by simp at q3;omega
   have HS:Hid (R=eU (60-(n+1)) x.1 (s.data.toList.drop (k+x.2)) (n+1) (k+x.2)):=(show _=_ by
    rw[HR.out,show 60-n=(60-(n+1))+1 by omega,Z7 (R:=x.1) (c:=x.2) hq,List.drop_drop])
   have HN:=Lib.hid hnx
   have HG:=Lib.hid q1
   have HQ:=Lib.hid hq
   have HB:=Lib.hid hbe
   clear hq hnx HR hgd q1 hbe
   go_wp2_with (go_at_call 108;refine HN.out.mono ?_;rintro e w2⟨rfl,v2,hE2,hr2,ho2⟩)
   go_roundw
   case rel=>exact⟨n+1,k+x.2,x.1,v2,by rw[<-HB.out];exact hr2,ho2.mono hzz,HG.out,by omega,hk2,HS,hbel.trans (NZ hE2 hzz (λj hj=>by omega))⟩
   case measure=>rw[Me hr2,hlo];omega
theorem FM (s:ByteArray) (w:World) (hs:s.size<=9223372036854775807) :
  Calls Tryz.prog 55 #[.string s] w λe w'=>e=.returned (.bool (decide (s.size<=60000)))/\w=w':=by
 by_cases h:s.size<=60000
 ·have HH:=Lib.hid h;have h2:(s.size:Int)<=60000:=by omega
  clear h;go_enter Tryz.func55,Tryz.ntmps55;go_wp2;go_ret
  exact⟨Dw HH.out,rfl⟩
 ·have HH:=Lib.hid h;have h2:¬(s.size:Int)<=60000:=by omega
  clear h;go_enter Tryz.func55,Tryz.ntmps55;go_wp2;go_ret
  exact⟨yO HH.out,rfl⟩
def gG (s:ByteArray):(List Df×Nat×Nat)×Bool:=if s.size<=60000 then(aT s,true)else(([],0,0),false)
def Z9 (R:List Df) (n k:Nat) (ok:Bool) (w:World) (e:Ending) (w':World):Prop :=
 ∃v',e=.returned (.tuple #[v',.int .i64 (n:Int),.int .i64 (k:Int),.bool ok])/\cu w' w.heap.size v' R/\Below w.heap.size w w'
theorem aeE (s:ByteArray):good (gG s).1.1=true:=by
 unfold gG;split
 ·exact(qQ s).1
 ·decide
theorem Eh (s:ByteArray) (w:World) (ht:dF w) (hp:iM w) (hs:s.size<=4194304) :
  Calls Tryz.prog 19 #[.string s] w (Z9 (gG s).1.1 (gG s).1.2.1 (gG s).1.2.2 (gG s).2 w):=by
 by_cases h6:s.size<=60000
 ·have hrc:=λ(w1:World) (h1:dF w1) (h2:iM w1)=>FN s w1 h1 h2 h6;have e:gG s=(aT s,true):=by unfold gG;rw[if_pos h6]
  rw[e];obtain⟨R,hR⟩:∃R,aT s=R:=⟨_,rfl⟩
  rw[hR]at hrc ⊢;obtain⟨L,n,k⟩:=R;have HD:=Lib.hid (show decide (s.size<=60000)=true by simpa using h6);have HC:=Lib.hid hrc;clear hR e hrc h6;go_enter Tryz.func19,Tryz.ntmps19;go_wp2_with (first|(go_at_call 55;refine(FM s _ (by omega)).mono ?_;rintro r w1⟨rfl,rfl⟩;rw[HD.out])|(go_at_call 59;refine(HC.out _ ht hp).mono ?_;rintro e w2⟨v2,rfl,ho2,hb2⟩;simp only at ho2 ⊢))
  obtain⟨a2,c2,rfl,_,_⟩:=id ho2.at
  go_wp2_with fail
  go_region
  go_wp2;refine bodyPost_ret (v:=.tuple #[.slice a2 L.length c2,.int .i64 (n:Int),.int .i64 (k:Int),.bool true]) (by simp[results,Tryz.results19,go_sem]) rfl ?_;refine⟨_,rfl,?_,?_⟩
  ·first|exact ho2.keep (aj _ _)|exact ho2.keep ((aj _ _).drew)
  ·first|exact hb2.alloc hb2.size _|exact(hb2.alloc hb2.size _).drew
 ·have e:gG s=(([],0,0),false):=by unfold gG;rw[if_neg h6]
  rw[e];have HD:=Lib.hid (show decide (s.size<=60000)=false by simpa using h6);clear e h6;go_enter Tryz.func19,Tryz.ntmps19;go_wp2_with (go_at_call 55;refine(FM s _ (by omega)).mono ?_;rintro r w1⟨rfl,rfl⟩;rw[HD.out])
  refine bodyPost_ret (v:=.tuple #[.slice none 0 0,.int .i64 0,.int .i64 0,.bool false]) (by simp[results,Tryz.results19,go_sem]) rfl ?_;exact⟨_,rfl,IU _ _,Below.refl _ _⟩
end Go.Proofs.YtikgblkfmpecfaaGreatDoor
