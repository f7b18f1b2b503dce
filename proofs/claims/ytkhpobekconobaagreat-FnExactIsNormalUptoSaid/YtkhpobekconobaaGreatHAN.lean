import Derived.Test.YtkhpobekconobaaGreatHAM
set_option linter.all false
set_option maxRecDepth 100000
set_option maxHeartbeats 0
namespace Go.Proofs.YtkhpobekconobaaGreat
open Go.RowKit
theorem apS {e:aO} {n:Int} (h:yJ e n=true):e.aj.length<=2/\e.ay.length<=2:=by
 unfold yJ at h;rw[Zu]at h;exact aam h.1
theorem PD {α β:Type} (f:α->List β):∀l:List α,(∀x∈l,(f x).length<=2)->(l.flatMap f).length<=2*l.length
 | [],_=>by simp
 | x::l,h=>by
  have h1:=h x (by simp);have h2:=PD f l (λy hy=>h y (by simp[hy]));rw[Yt,Zk,Yv];omega
theorem aez {g:aF} (h1:g.ah.length<=60) (h2:g.aj.length<=12) (h3:g.ay.length<=12) (he:∀e∈g.ah,e.aj.length<=2/\e.ay.length<=2):g.iM.length<=1000000/\g.iZ.length<=1000000:=by
 unfold aF.iM aF.iZ;have a:=PD aO.ay g.ah (λe h=>(he e h).2);have b:=PD aO.aj g.ah (λe h=>(he e h).1);rw[Zk,Zk];omega
theorem apT {g:aF} (h:aY g=true):g.iM.length<=1000000/\g.iZ.length<=1000000:=by
 unfold aY Ej at h;simp only[Zu,ZF]at h;obtain⟨⟨h1,h2,h3,h4⟩,h5,-⟩:=h;exact aez h2 h3 h4 (λe he=>aam (Z7.1 h5 e he))
theorem apU:HgM:=by
 intro ve vi vo g u hR aP hg;obtain⟨⟨ae,ce,rfl⟩,⟨ai,ci,rfl⟩,ao,co,rfl⟩:=hR.slices;obtain⟨h1,h2⟩:=acs hg;obtain⟨h3,h4⟩:=apT hg;exact apz g ae ai ao ce ci co u hg λu' hb=>aex g _ _ _ _ _ _ u' (hR.keep hb) aP ⟨h1.1,by omega⟩ h2 h3 h4
theorem apV {g:aF} (h:¬(inB g.aB 0 100=true/\g.ah.length<=60/\g.aj.length<=12/\g.ay.length<=12/\iL g.aB g.aj=true/\iL g.aB g.ay=true)):aY g=false:=by
 rw[aep];unfold acp Ej;rw[Bool.and_eq_false_imp];intro h2;simp only[Zu,ZF]at h2;exact absurd ⟨h2.1.1,h2.1.2.1,h2.1.2.2.1,h2.1.2.2.2,h2.2.1,h2.2.2⟩ h
theorem apW {g:aF} {k:Nat} (hk:k<g.ah.length) (h:yJ g.ah[k] g.aB=false):aY g=false:=by
 rw[aep];have:(g.ah.all λe=>yJ e g.aB)=false:=X8.2 ⟨_,Zp hk,by simp[h]⟩;rw[this];simp
theorem apX {g:aF} (h:inB g.aB 0 100=true/\g.ah.length<=60/\g.aj.length<=12/\g.ay.length<=12/\iL g.aB g.aj=true/\iL g.aB g.ay=true) (he:∀j,∀h:j<g.ah.length,yJ (g.ah[j]'h) g.aB=true):aY g=Du g:=by
 rw[aep];unfold acp Ej;have h2:(g.ah.all λe=>yJ e g.aB)=true:=Z7.2 λe hm=>by obtain⟨j,hj,rfl⟩:=Yl.1 hm;exact he j hj
 rw[h2,h.1,Yn h.2.1,Yn h.2.2.1,Yn h.2.2.2.1,h.2.2.2.2.1,h.2.2.2.2.2];rfl
theorem apY {g:aF} (h1:iL g.aB g.aj=true) (h2:iL g.aB g.ay=true) (he:∀j,∀h:j<g.ah.length,yJ (g.ah[j]'h) g.aB=true):∀x∈g.places,0<=x/\x<g.aB:=by
 refine(acr _ _).1 ?_;unfold aF.places;rw[Tn,Tn,aeo,h1,h2];have h3:(g.ah.all λe=>iL g.aB e.aj&&iL g.aB e.ay)=true:=Z7.2 λe hm=>by
  obtain⟨j,hj,rfl⟩:=Yl.1 hm;have:=he j hj;unfold yJ at this;rw[Zu]at this;exact this.2
 rw[h3];rfl
theorem aip {w:World} {v:Value} {n:Nat} {l:List Int} (h:aU w v (qj n l)):∃a c,v=.slice a n c/\n<=c/\∀i,i<n->∃b o,a=some ⟨b,o,none⟩/\w.cell? ⟨b,o+i,none⟩=some (.int .i64 (l.count (i:Int):Int)):=by
 obtain⟨a,c,hv,hc,hat⟩:=h;rw[DK]at hv hc;refine⟨a,c,hv,hc,λi hi=>?_⟩;obtain⟨b,o,e,hl,hcell⟩:=hat i (by rw[DK];exact hi);rw[Tm,Z2]at hcell;exact⟨b,o,e,hcell⟩
theorem apZ {g:aF} {k:Nat} (hk:(k:Int)<g.aB) (h:(g.iM.count (k:Int):Int)+(g.iZ.count (k:Int):Int)=0):Du g=false:=by
 cases hg:Du g with
 | false=>rfl
 | true=>exact absurd h ((ah9 g).1 hg k hk)
theorem aeA:HgV:=by
 intro ve vi vo g w hR aP;obtain⟨⟨ae,ce,rfl⟩,⟨ai,ci,rfl⟩,ao,co,rfl⟩:=hR.slices;have hA:=aH w (.cells #[.int .i64 g.aB,.slice ae g.ah.length ce,.slice ai g.aj.length ci,.slice ao g.ay.length co] 33);have nR:=hR.inn.keep hA;have AB:=hR.out.keep hA;obtain⟨b1,hb1⟩:∃b,allB 0 (g.aB-1) g.aj=b:=⟨_,rfl⟩
 obtain⟨b2,hb2⟩:∃b,allB 0 (g.aB-1) g.ay=b:=⟨_,rfl⟩
 by_cases jM:inB g.aB 0 100=true/\g.ah.length<=60/\g.aj.length<=12/\g.ay.length<=12/\iL g.aB g.aj=true/\iL g.aB g.ay=true
 ·have h1:=jM.1;have n0:0<=g.aB/\g.aB<=100:=by simpa[inB]using h1
  have n2:¬(60:Int)<g.ah.length:=by omega
  have n3:¬(12:Int)<g.aj.length:=by omega
  have n4:¬(12:Int)<g.ay.length:=by omega
  have dQ:IntKind.i64.wrap (g.aB-1)=g.aB-1:=Z8 _ (by omega);have e1:b1=true:=by rw[<-hb1,Ti];exact jM.2.2.2.2.1
  have e2:b2=true:=by rw[<-hb2,Ti];exact jM.2.2.2.2.2
  subst e1 e2;have HB1:=Za hb1;have HB2:=Za hb2;have HF:=Za (Zb h1 WK);have MR:=Za jM;clear h1 jM hb1 hb2;have hN:∃n:Int,g.aB=n:=⟨_,rfl⟩
  go_enter Tryz.func56,Tryz.ntmps56;go_wp2_with (first|(go_at_call 46;refine(sD _ _ _ _).mono ?_;rintro r w2⟨rfl,rfl⟩;rw[HF.out.1])|(go_at_call 78;refine(aay _ _ _ _ _ (by first|exact nR|exact AB) (by first|exact aP.inn|exact aP.out)).mono ?_;rintro r w2⟨rfl,rfl⟩;first|rw[HB1.out]|rw[HB2.out]))
  have kG:=Bk.new w 33 #[.int .i64 g.aB,.slice ae g.ah.length ce,.slice ai g.aj.length ci,.slice ao g.ay.length co];generalize(w.alloc (.cells #[.int .i64 g.aB,.slice ae g.ah.length ce,.slice ai g.aj.length ci,.slice ao g.ay.length co] 33))=u0 at *;clear n2 n3 n4 nR AB dQ;obtain⟨pe,JO,he,hce,hat⟩:=hR.ed;simp only[Zx]at he;obtain⟨rfl,-,rfl⟩:=he;have Cb:=aP.ed;go_loopw [51] (λi wr=>∃k:Nat,k<=g.ah.length/\i=.int .i64 k/\Below u0.heap.size u0 wr/\∀j,∀h:j<g.ah.length,j<k->yJ (g.ah[j]'h) g.aB=true) (λi _=>g.ah.length-(intOf i).toNat)
  case atStart=>exact⟨0,Zw _,rfl,Zl _ _,λj h1 h2=>by omega⟩
  case round =>
   obtain⟨k,hk,rfl,hbr,hall⟩:=hrel;have jO:=Za hall;clear hall;have dF:=hA.trans (hbr.mono hA.size);replace kG:=kG.keep hbr;by_cases hlt:k<g.ah.length
   ·obtain⟨b,o,rfl,_,dI⟩:=hat k hlt;obtain⟨c0,c1,x1,x2,c2,c3,hi,ho⟩:=dI.keep dF;have aiq:=aP.xO _ (Zp hlt);have lY:=Za (λh=>apW (g:=g) hlt h);obtain⟨e,rV⟩:∃e,g.ah[k]=e:=⟨_,rfl⟩
    rw[rV]at c0 c1 hi ho aiq lY;have HEE:=Za rV;obtain⟨a1,q1,rfl⟩:=hi.slice;obtain⟨a2,q2,rfl⟩:=ho.slice;have bz:=cell_lt c0;have aZ:=aH wr (.cells #[.int .i64 e.kind,.int .i64 e.value,.slice a1 e.aj.length q1,.slice a2 e.ay.length q2] 102);have hE:=apw e g.aB _ _ _ n0 (hi.keep aZ) (ho.keep aZ) aiq;obtain⟨iG,-,zG⟩:=kG.cell;clear rV hat dI;cases dL:yJ e g.aB with
    | false =>
     have HG:=Za (lY.out dL);rw[dL]at hE;have HE:=Za hE;clear hE dL lY;go_wp2_with (go_at_call 79;refine HE.out.mono ?_;rintro r w3⟨rfl,hb3⟩)
     go_ret;exact⟨by rw[HG.out];rfl,dF.trans ((aZ.trans (hb3.mono aZ.size)).mono dF.size)⟩
    | true =>
     have AL:=Za dL;rw[dL]at hE;have HE:=Za hE;clear hE dL lY;go_wp2_with (go_at_call 79;refine HE.out.mono ?_;rintro r w3⟨rfl,hb3⟩)
     go_roundw
     case rel=>exact⟨k+1,by omega,by go_num,hbr.trans ((aZ.trans (hb3.mono aZ.size)).mono hbr.size),λj h1 h2=>by
      rcases Yj j k with h|h
      ·exact jO.out j h1 h
      ·obtain rfl:j=k:=by omega
       rw[HEE.out];exact AL.out⟩
     case measure=>simp[intOf];omega
   ·obtain rfl:k=g.ah.length:=by omega
    have acE:∀j,∀h:j<g.ah.length,yJ (g.ah[j]'h) g.aB=true:=λj hj=>jO.out j hj hj;have Et:=apX MR.out acE;have air:=apY MR.out.2.2.2.2.1 MR.out.2.2.2.2.2 acE;have acF:=aez MR.out.2.1 MR.out.2.2.1 MR.out.2.2.2.1 (λe he=>by obtain⟨j,hj,rfl⟩:=Yl.1 he;exact apS (acE j hj));have hC:=aex g _ _ _ _ _ _ wr (hR.keep dF) aP ⟨n0.1,by omega⟩ air acF.1 acF.2;have HC:=Za hC;have HRS:=Za Et;have HLN:=Za acF;clear hat hC Et air acE jO acF;obtain⟨iG,-,zG⟩:=kG.cell;go_wp2_with fail
    refine HC.out.mono ?_;rintro r w3⟨v1,v2,rfl,CQ,hv2,hb3⟩;obtain⟨n,hn⟩:∃n:Nat,g.aB=n:=⟨g.aB.toNat,by omega⟩
    rw[show g.aB.toNat=n by omega]at CQ hv2;obtain⟨p1,s1,rfl,hs1,aeB⟩:=aip CQ;obtain⟨p2,s2,rfl,hs2,TG⟩:=aip hv2;have acG:=dF.trans (hb3.mono dF.size);have HN:=Za hn;have aeb:n<=100:=by omega
    clear iG zG kG CQ hv2 hb3 hbr HC hn;go_wp2_with fail
    go_loopw [68] (λi wq=>∃k:Nat,k<=n/\i=.int .i64 k/\Below w3.heap.size w3 wq/\∀j,j<k->¬((g.iM.count (j:Int):Int)+(g.iZ.count (j:Int):Int)=0)) (λi _=>n-(intOf i).toNat)
    case atStart=>exact⟨0,Zw _,rfl,Zl _ _,λj h2=>by omega⟩
    case round =>
     obtain⟨k,hk,rfl,PE,hall⟩:=hrel;have jO:=Za hall;clear hall;have ais:=acG.trans (PE.mono acG.size);by_cases hlt:k<n
     ·obtain⟨b,o,rfl,c1⟩:=aeB k hlt;obtain⟨b',o',rfl,c2⟩:=TG k hlt;replace c1:=aK PE c1;replace c2:=aK PE c2;have z1:=cell_lt c1;have z2:=cell_lt c2;have l1:=cnt_le g.iM (k:Int);have l2:=cnt_le g.iZ (k:Int);have HX:=Za (λh=>apZ (g:=g) (k:=k) (by rw[HN.out];omega) h);obtain⟨x,hx⟩:∃x,g.iM.count (k:Int)=x:=⟨_,rfl⟩
      obtain⟨y,hy⟩:∃y,g.iZ.count (k:Int)=y:=⟨_,rfl⟩
      rw[hx]at c1 l1 HX;rw[hy]at c2 l2 HX;have hL:=HLN.out;have ws:IntKind.i64.wrap ((x:Int)+y)=(x:Int)+y:=Z8 _ (by omega);have vJ:=Za (Zb hx hy);clear aeB TG hx hy hL l1 l2;cases hz:((x:Int)+y==0)with
      | true =>
       have HG:=Za (HX.out (by simpa using hz));clear HX;go_wp2_with fail
       go_quiet (fail)
       go_wp2;go_ret;exact⟨by rw[HRS.out,HG.out];rfl,YU ais _⟩
      | false =>
       have HZ:=Za hz;clear HX;go_wp2_with fail
       go_quiet (fail)
       go_wp2;go_roundw
       case rel=>exact⟨k+1,by omega,by go_num,YU PE _,λj h2=>by
        rcases Yj j k with h|h
        ·exact jO.out j h
        ·obtain rfl:j=k:=by omega
         rw[vJ.out.1,vJ.out.2];simpa using HZ.out⟩
       case measure=>simp[intOf];omega
     ·obtain rfl:k=n:=by omega
      have mJ:Du g=true:=(ah9 g).2 λj hj=>jO.out j (by rw[HN.out]at hj;omega);have HG:=Za mJ;clear mJ aeB TG;go_wp2;go_ret;exact⟨by rw[HRS.out,HG.out];rfl,ais⟩
 ·have hG:=apV jM;have HG:=Za hG;cases h1:inB g.aB 0 100 with
  | false =>
   have HF:=Za (Zb h1 WK);clear h1 jM hG hb1 hb2;go_enter Tryz.func56,Tryz.ntmps56;go_wp2_with (go_at_call 46;refine(sD _ _ _ _).mono ?_;rintro r w2⟨rfl,rfl⟩;rw[HF.out.1])
   go_ret;exact⟨by rw[HG.out];rfl,hA⟩
  | true =>
   have n0:0<=g.aB/\g.aB<=100:=by simpa[inB]using h1
   have dQ:IntKind.i64.wrap (g.aB-1)=g.aB-1:=Z8 _ (by omega);have HF:=Za (Zb h1 WK);by_cases h2:g.ah.length<=60
   ·have n2:¬(60:Int)<g.ah.length:=by omega
    by_cases h3:g.aj.length<=12
    ·have n3:¬(12:Int)<g.aj.length:=by omega
     by_cases h4:g.ay.length<=12
     ·have n4:¬(12:Int)<g.ay.length:=by omega
      have h5:¬(b1=true/\b2=true):=by
       rintro⟨e1,e2⟩;exact jM ⟨h1,h2,h3,h4,by rw[<-Ti,hb1];exact e1,by rw[<-Ti,hb2];exact e2⟩
      have HB1:=Za hb1;have HB2:=Za hb2;clear h1 jM hG h2 h3 h4 hb1 hb2;cases b1
      ·go_enter Tryz.func56,Tryz.ntmps56;go_wp2_with (first|(go_at_call 46;refine(sD _ _ _ _).mono ?_;rintro r w2⟨rfl,rfl⟩;rw[HF.out.1])|(go_at_call 78;refine(aay _ _ _ _ _ (by first|exact nR|exact AB) (by first|exact aP.inn|exact aP.out)).mono ?_;rintro r w2⟨rfl,rfl⟩;first|rw[HB1.out]|rw[HB2.out]))
       go_ret;exact⟨by rw[HG.out];rfl,hA⟩
      ·cases b2
       ·go_enter Tryz.func56,Tryz.ntmps56;go_wp2_with (first|(go_at_call 46;refine(sD _ _ _ _).mono ?_;rintro r w2⟨rfl,rfl⟩;rw[HF.out.1])|(go_at_call 78;refine(aay _ _ _ _ _ (by first|exact nR|exact AB) (by first|exact aP.inn|exact aP.out)).mono ?_;rintro r w2⟨rfl,rfl⟩;first|rw[HB1.out]|rw[HB2.out]))
        go_ret;exact⟨by rw[HG.out];rfl,hA⟩
       ·exact absurd ⟨rfl,rfl⟩ h5
     ·have n4:(12:Int)<g.ay.length:=by omega
      clear h1 jM hG h2 h3 h4 hb1 hb2;go_enter Tryz.func56,Tryz.ntmps56;go_wp2_with (go_at_call 46;refine(sD _ _ _ _).mono ?_;rintro r w2⟨rfl,rfl⟩;rw[HF.out.1])
      go_ret;exact⟨by rw[HG.out];rfl,hA⟩
    ·have n3:(12:Int)<g.aj.length:=by omega
     clear h1 jM hG h2 h3 hb1 hb2;go_enter Tryz.func56,Tryz.ntmps56;go_wp2_with (go_at_call 46;refine(sD _ _ _ _).mono ?_;rintro r w2⟨rfl,rfl⟩;rw[HF.out.1])
     go_ret;exact⟨by rw[HG.out];rfl,hA⟩
   ·have n2:(60:Int)<g.ah.length:=by omega
    clear h1 jM hG h2 hb1 hb2;go_enter Tryz.func56,Tryz.ntmps56;go_wp2_with (go_at_call 46;refine(sD _ _ _ _).mono ?_;rintro r w2⟨rfl,rfl⟩;rw[HF.out.1])
    go_ret;exact⟨by rw[HG.out];rfl,hA⟩
def DT (n:Nat):aF:=⟨n,[],dW n,dW n⟩
def Bf (k v:Int) (a b:Nat):aF:=⟨((a+b:Nat):Int),[⟨k,v,dW a,bY a b⟩],dW a,bY a b⟩
def vM (n:Nd):aF :=
 if n.kind=1 then DT n.value.toNat
 else if n.kind=2 then⟨2,[],[0,1],[1,0]⟩
 else Bf n.kind n.value (fJ n.kind).1.toNat (fJ n.kind).2.toNat
def lN (a b:aF):aF:=⟨((a.aB.toNat+b.aB.toNat:Nat):Int),a.ah++b.ah.map (jm (bY a.aB.toNat b.aB.toNat)),a.aj,aG (bY a.aB.toNat b.aB.toNat) b.ay⟩
def qK (a b:aF):List (Nat×Nat):=(a.ay.zip b.aj).map λp=>(p.1.toNat,p.2.toNat+a.aB.toNat)
def pI (a b:aF):aF:=tV (lN a b) (a.aB.toNat+b.aB.toNat) (qK a b)
def ql (a b:aF):aF:=PI a.aB.toNat b.aB.toNat a.ah b.ah a.aj b.aj a.ay b.ay
theorem aeC (a b:aF):(pI a b).aj.length=a.aj.length:=by simp[pI,tV,mZ,lN,gY]
theorem aeD (a b:aF):(pI a b).ay.length=b.ay.length:=by simp[pI,tV,mZ,lN,gY]
theorem aeE (a b:aF):(ql a b).aj.length=a.aj.length+b.aj.length:=by simp[ql,PI,gY]
theorem aeF (a b:aF):(ql a b).ay.length=a.ay.length+b.ay.length:=by simp[ql,PI,gY]
theorem ap0:∀n:Nat,n<=12->aY (DT n)=true:=by decide +kernel
theorem ap1:aY ⟨2,[],[0,1],[1,0]⟩=true:=by decide +kernel
theorem ap2 (k v:Int) (h0:3<=k) (h1:k<=14) (hv:BK k v=true):aY (Bf k v (fJ k).1.toNat (fJ k).2.toNat)=true:=by
 have hk:k=3\/k=4\/k=5\/k=6\/k=7\/k=8\/k=9\/k=10\/k=11\/k=12\/k=13\/k=14:=by omega
 have key:∀k':Int,(k'=k)->(∀x:Bool,x=true->((x&&true)&&true)=true)->aY (Bf k' v (fJ k').1.toNat (fJ k').2.toNat)=true:=by
  intro k' e hx;subst e;have e1:qB ⟨k',v,dW (fJ k').1.toNat,bY (fJ k').1.toNat (fJ k').2.toNat⟩=true:=by
   unfold qB;rw[hv];rcases hk with rfl|rfl|rfl|rfl|rfl|rfl|rfl|rfl|rfl|rfl|rfl|rfl<;>rfl
  have e2:Ej (Bf k' v (fJ k').1.toNat (fJ k').2.toNat)=true:=by
   rcases hk with rfl|rfl|rfl|rfl|rfl|rfl|rfl|rfl|rfl|rfl|rfl|rfl<;>rfl
  have e3:(iL (Bf k' v (fJ k').1.toNat (fJ k').2.toNat).aB (Bf k' v (fJ k').1.toNat (fJ k').2.toNat).places&&Du (Bf k' v (fJ k').1.toNat (fJ k').2.toNat))=true:=by
   rcases hk with rfl|rfl|rfl|rfl|rfl|rfl|rfl|rfl|rfl|rfl|rfl|rfl<;>rfl
  unfold aY;rw[e2,e3];show(true&&((qB _&&true)&&true))=true;rw[e1];rfl
 exact key k rfl (λx h=>by rw[h];rfl)
theorem aeG {n:Nd} (h:jB n=true):aY (vM n)=true/\((vM n).aj.length:Int)=(wF n).1/\((vM n).ay.length:Int)=(wF n).2:=by
 obtain⟨k,v,nm⟩:=n;have h':=h;unfold jB at h;simp only[Zu,ZF]at h;obtain⟨⟨⟨h0,h1⟩,h2⟩,h3⟩:=h;have lu:nm=⟨#[]⟩:=h0;unfold vM wF;dsimp only;by_cases hk:k=1
 ·subst hk;simp only[if_true,Zu,ZF]at h3;obtain⟨m,rfl⟩:∃m:Nat,v=m:=⟨v.toNat,by omega⟩
  simp only[if_true];refine⟨ap0 _ (by omega),?_,?_⟩<;>simp[DT,oh]
 ·rw[ZH hk,ZH hk];by_cases hk2:k=2
  ·subst hk2;rw[ZE rfl];exact⟨ap1,rfl,rfl⟩
  ·rw[ZH hk2];have hv:BK k v=true:=by
    rw[<-ah5 (e:=⟨k,v,[],[]⟩) (by unfold inB;simp;omega),<-lu];exact h'
   refine⟨ap2 k v (by omega) h2 hv,?_,?_⟩
   ·simp only[Bf,oh];have:0<=(fJ k).1:=by
     unfold fJ;repeat' split
     all_goals simp
    omega
   ·simp only[Bf,rP];have:0<=(fJ k).2:=by
     unfold fJ;repeat' split
     all_goals simp
    omega
structure IL (g:aF) (t:W2):Prop where
 ok:aY g=true
 a:(g.aj.length:Int)=t.1
 b:(g.ay.length:Int)=t.2
theorem eF {g:aF} (h:aY g=true):(∃n:Nat,g.aB=n/\n<=100)/\g.ah.length<=60/\g.aj.length<=12/\g.ay.length<=12/\(∀e∈g.ah,e.aj.length<=2/\e.ay.length<=2)/\∀k∈g.places,0<=k/\k<g.aB:=by
 unfold aY Ej at h;simp only[Zu,ZF]at h;obtain⟨⟨h1,h2,h3,h4⟩,h5,h6,-⟩:=h;unfold inB at h1;simp only[Zu,ZF]at h1;exact⟨⟨g.aB.toNat,by omega,by omega⟩,h2,h3,h4,λe he=>aam (Z7.1 h5 e he),(acr _ _).1 h6⟩
theorem CX {g:aF} {n:Nat} (h:aY g=true) (hn:g.aB=n):Bg g n:=by
 obtain⟨⟨m,h0,h1⟩,h2,h3,h4,h5,h6⟩:=eF h;refine⟨by omega,⟨by omega,λe he=>by have:=h5 e he;omega,by omega,by omega⟩,λk hk=>by rw[<-hn];exact h6 k hk,aez h2 h3 h4 h5⟩
theorem PK {a b:Nat} {l:List Int} (h:∀k∈l,0<=k/\k<(b:Int)):aG (bY a b) l=l.map (λk:Int=>k+(a:Int)):=by
 unfold aG;refine YZ λk hk=>?_;obtain⟨h1,h2⟩:=h k hk;obtain⟨m,rfl⟩:∃m:Nat,k=m:=⟨k.toNat,by omega⟩
 have hm:m<(bY a b).length:=by rw[rP];omega
 rw[Zr,Zg,Zi hm,YL,aec];omega
theorem mem_pl {g:aF} {k:Int}:k∈g.places↔k∈g.aj\/k∈g.ay\/∃e∈g.ah,k∈e.aj\/k∈e.ay:=by
 unfold aF.places;simp only[Zs,Z6]
theorem aeH {a b:Nat} {l:List Int} (h:∀k∈l,0<=k/\k<(b:Int)):∀k∈aG (bY a b) l,0<=k/\k<((a+b:Nat):Int):=by
 rw[PK h];intro k hk;obtain⟨j,hj,rfl⟩:=ZM.1 hk;have:=h j hj;omega
theorem aaE {a b:aF} (ha:aY a=true) (hb:aY b=true):Bg (lN a b) (a.aB.toNat+b.aB.toNat):=by
 obtain⟨⟨m,h0,h1⟩,h2,h3,h4,h5,h6⟩:=eF ha;obtain⟨⟨n,k0,k1⟩,k2,k3,k4,k5,k6⟩:=eF hb;have em:a.aB.toNat=m:=by omega
 have en:b.aB.toNat=n:=by omega
 rw[em,en];have dL:∀e∈(lN a b).ah,e.aj.length<=2/\e.ay.length<=2:=by
  intro e he;rcases Zs.1 he with he|he
  ·exact h5 e he
  ·obtain⟨x,hx,rfl⟩:=ZM.1 he;simp only[jm,gY];exact k5 x hx
 have Cb:(lN a b).ah.length<=120:=by simp only[lN,Zk,ZG];omega
 have hol:(lN a b).ay.length<=12:=by simp only[lN,gY];omega
 refine⟨by omega,⟨by omega,λe he=>by have:=dL e he;omega,by show a.aj.length<=1000;omega,by omega⟩,?_,?_⟩
 ·intro k hk;have hA:∀k,k∈a.places->0<=k/\k<((m+n:Nat):Int):=λk hk=>by have:=h6 k hk;omega
  have hB:∀(l:List Int),(∀k∈l,k∈b.places)->∀k∈aG (bY m n) l,0<=k/\k<((m+n:Nat):Int):=λl hl=>aeH λk hk=>by have:=k6 k (hl k hk);omega
  rcases mem_pl.1 hk with hk|hk|⟨e,he,hk⟩
  ·exact hA k (mem_pl.2 (.inl hk))
  ·simp only[lN,em,en]at hk;exact hB _ (λk hk=>mem_pl.2 (.inr (.inl hk))) k hk
  ·simp only[lN,em,en]at he;rcases Zs.1 he with he|he
   ·exact hA k (mem_pl.2 (.inr (.inr ⟨e,he,hk⟩)))
   ·obtain⟨x,hx,rfl⟩:=ZM.1 he;simp only[jm]at hk;rcases hk with hk|hk
    ·exact hB _ (λk hk=>mem_pl.2 (.inr (.inr ⟨x,hx,.inl hk⟩))) k hk
    ·exact hB _ (λk hk=>mem_pl.2 (.inr (.inr ⟨x,hx,.inr hk⟩))) k hk
 ·unfold aF.iM aF.iZ;have a1:=PD aO.ay (lN a b).ah (λe h=>(dL e h).2);have b1:=PD aO.aj (lN a b).ah (λe h=>(dL e h).1);have c1:(lN a b).aj.length<=12:=h3;rw[Zk,Zk];omega
theorem zip_fst {α β:Type}:∀(l:List α) (m:List β),l.length=m.length->(l.zip m).map Prod.fst=l
 | [],_,_=>by simp
 | a::l,[],h=>by simp at h
 | a::l,b::m,h=>by simp only[XD,Yx,zip_fst l m (by simpa using h)]
theorem aeI {α β:Type}:∀(l:List α) (m:List β),l.length=m.length->(l.zip m).map Prod.snd=m
 | [],m,h=>by cases m with
  | nil=>rfl
  | cons=>simp at h
 | a::l,[],h=>by simp at h
 | a::l,b::m,h=>by simp only[XD,Yx,aeI l m (by simpa using h)]
theorem ap3 {a b:aF} (ha:aY a=true) (h:a.ay.length=b.aj.length):nI ((qK a b).map Prod.fst)=a.ay:=by
 obtain⟨-,-,-,-,-,h6⟩:=eF ha;unfold qK nI;rw[YX,YX];have e:(a.ay.zip b.aj).map (((λn:Nat=>(n:Int)) ∘ Prod.fst) ∘ λp:Int×Int=>(p.1.toNat,p.2.toNat+a.aB.toNat))=((a.ay.zip b.aj).map Prod.fst).map λk=>((k.toNat:Nat):Int):=by rw[YX];rfl
 rw[e,zip_fst _ _ h];conv=>rhs;rw[<-Vg a.ay]
 refine YZ λk hk=>?_;have:=h6 k (mem_pl.2 (.inr (.inl hk)));simp only[id];omega
theorem ap4 {a b:aF} (ha:aY a=true) (hb:aY b=true) (h:a.ay.length=b.aj.length):nI ((qK a b).map Prod.snd)=aG (bY a.aB.toNat b.aB.toNat) b.aj:=by
 obtain⟨⟨n,k0,k1⟩,k2,k3,k4,k5,k6⟩:=eF hb;rw[PK λk hk=>by have:=k6 k (mem_pl.2 (.inl hk));omega];unfold qK nI;rw[YX,YX];have e:(a.ay.zip b.aj).map (((λn:Nat=>(n:Int)) ∘ Prod.snd) ∘ λp:Int×Int=>(p.1.toNat,p.2.toNat+a.aB.toNat))=((a.ay.zip b.aj).map Prod.snd).map λk=>((k.toNat+a.aB.toNat:Nat):Int):=by rw[YX];rfl
 rw[e,aeI _ _ h];refine YZ λk hk=>?_;have:=k6 k (mem_pl.2 (.inl hk));omega
theorem aeJ {a b:aF} (ha:aY a=true) (hb:aY b=true):∀p∈qK a b,p.1<a.aB.toNat+b.aB.toNat/\p.2<a.aB.toNat+b.aB.toNat:=by
 obtain⟨-,-,-,-,-,h6⟩:=eF ha;obtain⟨-,-,-,-,-,k6⟩:=eF hb;intro p hp;unfold qK at hp;obtain⟨q,hq,rfl⟩:=ZM.1 hp;have h1:=h6 q.1 (mem_pl.2 (.inr (.inl (YS hq).1)));have h2:=k6 q.2 (mem_pl.2 (.inl (YS hq).2));simp only;omega
theorem aeK {a b:aF} (ha:aY a=true):(qK a b).length<=12:=by
 obtain⟨-,-,-,h4,-⟩:=eF ha;unfold qK;rw[ZG,Xo];omega
def qm:List Nd->List aF->Option (List aF)
 | [],st=>some st
 | n::r,st =>
  if n.kind=15 then
   (match st with
   | b::a::st'=>if aY (pI a b)=true then qm r (pI a b::st')else none
   | _=>none)
  else if n.kind=16 then
   (match st with
   | b::a::st'=>if aY (ql a b)=true then qm r (ql a b::st')else none
   | _=>none)
  else if aY (vM n)=true then qm r (vM n::st)else none
theorem ait {n:Nd} {r:List Nd} {a b:aF} {st:List aF} (h:n.kind=15):qm (n::r) (b::a::st)=if aY (pI a b)=true then qm r (pI a b::st)else none:=by
 conv=>lhs;unfold qm
 rw[ZE h]
theorem aiu {n:Nd} {r:List Nd} {a b:aF} {st:List aF} (h:n.kind=16):qm (n::r) (b::a::st)=if aY (ql a b)=true then qm r (ql a b::st)else none:=by
 conv=>lhs;unfold qm
 rw[ZH (by omega),ZE h]
theorem aiv {n:Nd} {r:List Nd} {st:List aF} (h:¬(n.kind=15\/n.kind=16)):qm (n::r) st=if aY (vM n)=true then qm r (vM n::st)else none:=by
 conv=>lhs;unfold qm
 rw[ZH (by omega),ZH (by omega)]
def jU:Tr->Option aF
 | .leaf n=>some (vM n)
 | .seq a b =>
  match jU a,jU b with
  | some x,some y=>if aY (pI x y)=true then some (pI x y)else none
  | _,_=>none
 | .par a b =>
  match jU a,jU b with
  | some x,some y=>if aY (ql x y)=true then some (ql x y)else none
  | _,_=>none
theorem acH {n:Nd} {x:W2} (h:bI [] n=some x):jB n=true/\wF n=x:=by
 unfold bI at h;split at h
 ·simp[findD]at h
 ·split at h
  ·rename_i hb
   exact⟨hb,by simpa using h⟩
  ·cases h
theorem DU:∀(t:Tr) (x:W2),t.ty (bI [])=some x->∀g,jU t=some g->IL g x
 | .leaf n,x,hx,g,hg=>by
  simp only[Tr.ty]at hx;obtain⟨h1,rfl⟩:=acH hx;simp only[jU,ZQ]at hg;subst hg;obtain⟨h2,h3,h4⟩:=aeG h1;exact⟨h2,h3,h4⟩
 | .seq a b,x,hx,g,hg=>by
  simp only[Tr.ty]at hx;split at hx
  ·rename_i p q h1 h2
   simp only[jU]at hg;split at hg
   ·rename_i ga gb e1 e2
    have ma:=DU a p h1 ga e1;have mb:=DU b q h2 gb e2;split at hg
    ·rename_i hB
     simp only[ZQ]at hg;subst hg;unfold og at hx;rw[ZE rfl]at hx;split at hx
     ·simp only[ZQ]at hx;subst hx;exact⟨hB,by rw[aeC];exact ma.a,by rw[aeD];exact mb.b⟩
     ·cases hx
    ·cases hg
   ·cases hg
  ·cases hx
 | .par a b,x,hx,g,hg=>by
  simp only[Tr.ty]at hx;split at hx
  ·rename_i p q h1 h2
   simp only[jU]at hg;split at hg
   ·rename_i ga gb e1 e2
    have ma:=DU a p h1 ga e1;have mb:=DU b q h2 gb e2;split at hg
    ·rename_i hB
     simp only[ZQ]at hg;subst hg;simp only[og]at hx;rw[ZH (by decide)]at hx;split at hx
     ·simp only[ZQ]at hx;subst hx;refine⟨hB,?_,?_⟩
      ·rw[aeE];have:=ma.a;have:=mb.a;simp only;omega
      ·rw[aeF];have:=ma.b;have:=mb.b;simp only;omega
     ·cases hx
    ·cases hg
   ·cases hg
  ·cases hx
theorem Nz:∀(t:Tr) (x:W2),t.LK->t.ty (bI [])=some x->∀(r:List Nd) (st:List aF),qm (t.nodes++r) st=match jU t with|some g=>qm r (g::st)|none=>none
 | .leaf n,x,hl,hx,r,st=>by
  simp only[Tr.ty]at hx;obtain⟨h1,rfl⟩:=acH hx;simp only[Tr.nodes,jU,Xb,YW];rw[aiv hl,ZE (aeG h1).1]
 | .seq a b,x,hl,hx,r,st=>by
  simp only[Tr.ty]at hx;split at hx
  ·rename_i p q h1 h2
   simp only[Tr.nodes,jU];rw[Zz,Zz,Nz a p hl.1 h1];cases e1:jU a with
   | none=>rfl
   | some ga =>
    simp only;rw[Nz b q hl.2 h2];cases e2:jU b with
    | none=>rfl
    | some gb =>
     simp only;rw[YD,ait rfl];split<;>rfl
  ·cases hx
 | .par a b,x,hl,hx,r,st=>by
  simp only[Tr.ty]at hx;split at hx
  ·rename_i p q h1 h2
   simp only[Tr.nodes,jU];rw[Zz,Zz,Nz a p hl.1 h1];cases e1:jU a with
   | none=>rfl
   | some ga =>
    simp only;rw[Nz b q hl.2 h2];cases e2:jU b with
    | none=>rfl
    | some gb =>
     simp only;rw[YD,aiu rfl];split<;>rfl
  ·cases hx
def PL:List Tr->List Nd
 | []=>[]
 | t::r=>PL r++t.nodes
def TyR (leaf:Nd->Option W2):List Tr->List W2->Prop
 | [],[]=>True
 | t::ts,x::xs=>(t.LK/\t.ty leaf=some x)/\TyR leaf ts xs
 | _,_=>False
theorem acI {leaf:Nd->Option W2}:∀(ns:List Nd) (xs xs':List W2) (ts:List Tr),eX leaf ns xs=some xs'->TyR leaf ts xs->∃ts',TyR leaf ts' xs'/\PL ts'=PL ts++ns
 | [],xs,xs',ts,h,ht=>by
  simp only[eX,ZQ]at h;subst h;exact⟨ts,ht,by simp⟩
 | n::r,xs,xs',ts,h,ht=>by
  by_cases hk:n.kind=15\/n.kind=16
  ·unfold eX at h;rw[ZE hk]at h;split at h
   ·rename_i hz
    split at h
    ·rename_i b a st0
     split at h
     ·rename_i x hx
      match ts,ht with
      | tb::ta::ts0,ht =>
       obtain⟨⟨h1,h2⟩,⟨h3,h4⟩,h5⟩:=ht;obtain⟨k,v,nm⟩:=n;simp only at hk hz hx;obtain⟨rfl,rfl⟩:=hz;rcases hk with rfl|rfl
       ·obtain⟨ts',e1,e2⟩:=acI r _ xs' (.seq ta tb::ts0) h ⟨⟨⟨h3,h1⟩,by rw[Tr.ty,h4,h2];exact hx⟩,h5⟩;exact⟨ts',e1,by rw[e2];simp only[PL,Tr.nodes,Zz,YD];rfl⟩
       ·obtain⟨ts',e1,e2⟩:=acI r _ xs' (.par ta tb::ts0) h ⟨⟨⟨h3,h1⟩,by rw[Tr.ty,h4,h2];exact hx⟩,h5⟩;exact⟨ts',e1,by rw[e2];simp only[PL,Tr.nodes,Zz,YD];rfl⟩
     ·cases h
    ·cases h
   ·cases h
  ·unfold eX at h;rw[ZH hk]at h;split at h
   ·rename_i x hx
    obtain⟨ts',e1,e2⟩:=acI r _ xs' (.leaf n::ts) h ⟨⟨hk,hx⟩,ht⟩;exact⟨ts',e1,by rw[e2];simp only[PL,Tr.nodes,Zz,YD]⟩
   ·cases h
theorem aeL {leaf:Nd->Option W2} {ns:List Nd} {x:W2} (h:bP leaf ns=some x):∃t:Tr,t.LK/\t.ty leaf=some x/\t.nodes=ns:=by
 unfold bP at h;split at h
 ·split at h
  ·rename_i y hy
   simp only[ZQ]at h;subst h;obtain⟨ts',h1,h2⟩:=acI ns [] _ [] hy trivial;match ts',h1 with
   | [t],h1=>exact⟨t,h1.1.1,h1.1.2,by simpa[PL]using h2⟩
  ·cases h
 ·cases h
def aaF (ns:List Nd):Bool:=(qm ns []).isSome
theorem ap5 {t:Tr} {x:W2} (h:t.LK) (hx:t.ty (bI [])=some x):aaF t.nodes=(jU t).isSome:=by
 have:=Nz t x h hx [] [];rw[ZZ]at this;unfold aaF;rw[this];cases jU t<;>rfl
theorem aiw {α:Type} {P:List α->Prop} (h0:P []) (h1:∀l a,P l->P (l++[a])) (l:List α):P l:=by
 rw[<-Wj l];induction l.reverse with
 | nil=>exact h0
 | cons a r ih=>rw[VC];exact h1 _ _ ih
def ND (q:aF) (mw:List Int) (base:Nat) (st:List Int×Nat) (w:Int):List Int×Nat :=
 if q.ay.contains w then(st.1.set (mw.getD w.toNat 0).toNat ((base+st.2:Nat):Int),st.2+1)else st
def oG (q:aF) (mw:List Int) (G base:Nat) (ks:List Int):List Int×Nat:=ks.foldl (ND q mw base) (dW G,0)
theorem aeM (q:aF) (mw:List Int) (G base:Nat):oG q mw G base []=(dW G,0):=rfl
theorem acJ (q:aF) (mw:List Int) (G base:Nat) (ks:List Int) (w:Int):oG q mw G base (ks++[w])=ND q mw base (oG q mw G base ks) w:=by simp[oG]
theorem aaG (q:aF) (mw:List Int) (G base:Nat) (hG:G<=base):∀ks:List Int,(oG q mw G base ks).1.length=G/\(oG q mw G base ks).2<=ks.length/\∀v∈(oG q mw G base ks).1,0<=v/\v<((base+(oG q mw G base ks).2:Nat):Int):=by
 refine aiw ?_ ?_
 ·refine⟨by simp[oG,dW],by simp[oG],λv hv=>?_⟩;simp only[oG,List.foldl_nil,dW]at hv ⊢;obtain⟨a,ha,rfl⟩:=ZM.1 hv;have:=ZW.1 ha;omega
 ·intro ks w ⟨h1,h2,h3⟩;rw[acJ];unfold ND;by_cases hc:q.ay.contains w=true
  ·rw[ZE hc];refine⟨by simp[h1],by simp;omega,λv hv=>?_⟩;rcases List.mem_or_eq_of_mem_set hv with h|rfl
   ·have:=h3 v h;simp only;omega
   ·simp only;omega
  ·rw[ZH hc];exact⟨h1,by simp;omega,h3⟩
def qp (me:List Int) (k:Nat):List Nat:=(List.range k).filter λi=>!me.contains (i:Int)
theorem aix (me:List Int) (k:Nat):qp me (k+1)=qp me k++if me.contains (k:Int)then[]else[k]:=by
 unfold qp;rw[YV,X3,Wg,Wn];cases me.contains (k:Int)<;>rfl
theorem aaH (me:List Int) (k:Nat):(qp me k).length<=k:=by
 unfold qp;have:=WV (λi:Nat=>!me.contains (i:Int)) (List.range k);rwa [List.length_range]at this
def PN (dest:List Int) (e:aO):aO:=⟨e.kind,e.value,aG dest e.aj,e.ay⟩
def vN (g:aF) (dest me:List Int) (k:Nat):List aO:=(qp me k).map λi=>PN dest (g.ah.getD i bQ)
theorem aiy (g:aF) (dest me:List Int) (k:Nat):vN g dest me (k+1)=vN g dest me k++if me.contains (k:Int)then[]else[PN dest (g.ah.getD k bQ)]:=by
 unfold vN;rw[aix,ZK];cases me.contains (k:Int)<;>rfl
def jq (g q r:aF) (m:aX):List Int:=(oG q m.aB g.aB.toNat (g.aB.toNat+r.aB.toNat) q.aj).1
def IQ (g q r:aF) (m:aX):Nat:=(oG q m.aB g.aB.toNat (g.aB.toNat+r.aB.toNat) q.aj).2
def jr (g q r:aF) (m:aX):Nat:=g.aB.toNat+r.aB.toNat+IQ g q r m
def uJ (g q r:aF) (m:aX):aF:=⟨jr g q r m,vN g (jq g q r m) m.ah g.ah.length++r.ah.map (jm (bY g.aB.toNat r.aB.toNat)),g.aj,aG (jq g q r m) g.ay⟩
def zQ (g q r:aF) (m:aX):List Int:=aG m.aB q.aj++aG (jq g q r m) (aG m.aB q.ay)
def Bh (g q r:aF) (m:aX):List Int:=aG (bY g.aB.toNat r.aB.toNat) r.aj++aG (bY g.aB.toNat r.aB.toNat) r.ay
def mP (g q r:aF) (m:aX):List (Nat×Nat):=((zQ g q r m).zip (Bh g q r m)).map λp=>(p.1.toNat,p.2.toNat)
def uK (g q r:aF) (m:aX):aF:=tV (uJ g q r m) (jr g q r m) (mP g q r m)
structure zU (g q r:aF) (m:aX):Prop where
 hg:aY g=true
 hq:aY q=true
 hr:aY r=true
 mt:Ce g q m=true
 li:q.aj.length=r.aj.length
 lo:q.ay.length=r.ay.length
theorem acK {g q:aF} {m:aX} (h:Ce g q m=true):(m.aB.length:Int)=q.aB/\m.ah.length=q.ah.length/\(∀v∈m.aB,0<=v/\v<g.aB)/\∀v∈m.ah,0<=v/\v<g.ah.length:=by
 unfold Ce JU iL inB at h;simp only[Zu,ZF,Z7]at h;obtain⟨h1,h2,h3,h4,-⟩:=h;exact⟨h1,h2,λv hv=>by have:=h3.1 v hv;omega,λv hv=>by have:=h4.1 v hv;omega⟩
theorem getD_mem {l:List Int} {k:Nat} (h:k<l.length):l.getD k 0∈l:=jX.2 ⟨k,h,rfl⟩
theorem aaI {tz ks:List Int} {T:Int} (ht:∀v∈tz,0<=v/\v<T) (hk:∀k∈ks,0<=k/\k<(tz.length:Int)):∀v∈aG tz ks,0<=v/\v<T:=by
 intro v hv;obtain⟨k,eH,rfl⟩:=ZM.1 hv;have:=hk k eH;exact ht _ (getD_mem (by omega))
theorem aeN {g q r:aF} {m:aX}:(jq g q r m).length=g.aB.toNat/\IQ g q r m<=q.aj.length/\∀v∈jq g q r m,0<=v/\v<((jr g q r m:Nat):Int) :=
 aaG q m.aB g.aB.toNat (g.aB.toNat+r.aB.toNat) (by omega) q.aj
theorem aeO {g q r:aF} {m:aX} (h:zU g q r m):(zQ g q r m).length=(Bh g q r m).length/\(∀v∈zQ g q r m,0<=v/\v<((jr g q r m:Nat):Int))/\∀v∈Bh g q r m,0<=v/\v<((jr g q r m:Nat):Int):=by
 obtain⟨⟨G,g0,g1⟩,g2,g3,g4,g5,g6⟩:=eF h.hg;obtain⟨⟨V,q0,q1⟩,q2,q3,q4,q5,q6⟩:=eF h.hq;obtain⟨⟨R,r0,r1⟩,r2,r3,r4,r5,r6⟩:=eF h.hr;obtain⟨d1,d2,d3⟩:=aeN (g:=g) (q:=q) (r:=r) (m:=m);obtain⟨m1,m2,m3,m4⟩:=acK h.mt;have hT:jr g q r m=G+R+IQ g q r m:=by unfold jr;omega
 have qI:=h.li;have wS:=h.lo;refine⟨by simp only[zQ,Bh,Zk,gY];omega,λv hv=>?_,λv hv=>?_⟩
 ·rcases Zs.1 hv with hv|hv
  ·have:=aaI m3 (λk hk=>by have:=q6 k (mem_pl.2 (.inl hk));omega) v hv;omega
  ·exact aaI d3 (λk hk=>by
    have:=aaI m3 (λk hk=>by have:=q6 k (mem_pl.2 (.inr (.inl hk)));omega) k hk;omega) v hv
 ·have hf:∀l:List Int,(∀k∈l,k∈r.places)->∀v∈aG (bY g.aB.toNat r.aB.toNat) l,0<=v/\v<((jr g q r m:Nat):Int):=λl hl v hv=>by
   have:=aeH (a:=g.aB.toNat) (b:=r.aB.toNat) (l:=l) (λk hk=>by have:=r6 k (hl k hk);omega) v hv;omega
  rcases Zs.1 hv with hv|hv
  ·exact hf _ (λk hk=>mem_pl.2 (.inl hk)) v hv
  ·exact hf _ (λk hk=>mem_pl.2 (.inr (.inl hk))) v hv
theorem aiz {g q r:aF} {m:aX} (h:zU g q r m):nI ((mP g q r m).map Prod.fst)=zQ g q r m:=by
 obtain⟨a1,a2,a3⟩:=aeO h;unfold mP nI;rw[YX,YX];have e:((zQ g q r m).zip (Bh g q r m)).map (((λn:Nat=>(n:Int)) ∘ Prod.fst) ∘ λp:Int×Int=>(p.1.toNat,p.2.toNat))=(((zQ g q r m).zip (Bh g q r m)).map Prod.fst).map λk=>((k.toNat:Nat):Int):=by rw[YX];rfl
 rw[e,zip_fst _ _ a1];conv=>rhs;rw[<-Vg (zQ g q r m)]
 refine YZ λk hk=>?_;have:=a2 k hk;simp only[id];omega
theorem aiA {g q r:aF} {m:aX} (h:zU g q r m):nI ((mP g q r m).map Prod.snd)=Bh g q r m:=by
 obtain⟨a1,a2,a3⟩:=aeO h;unfold mP nI;rw[YX,YX];have e:((zQ g q r m).zip (Bh g q r m)).map (((λn:Nat=>(n:Int)) ∘ Prod.snd) ∘ λp:Int×Int=>(p.1.toNat,p.2.toNat))=(((zQ g q r m).zip (Bh g q r m)).map Prod.snd).map λk=>((k.toNat:Nat):Int):=by rw[YX];rfl
 rw[e,aeI _ _ a1];conv=>rhs;rw[<-Vg (Bh g q r m)]
 refine YZ λk hk=>?_;have:=a3 k hk;simp only[id];omega
theorem aiB {g q r:aF} {m:aX} (h:zU g q r m):(∀p∈mP g q r m,p.1<jr g q r m/\p.2<jr g q r m)/\(mP g q r m).length<=24:=by
 obtain⟨a1,a2,a3⟩:=aeO h;refine⟨λp hp=>?_,?_⟩
 ·unfold mP at hp;obtain⟨c,hc,rfl⟩:=ZM.1 hp;have h1:=a2 c.1 (YS hc).1;have h2:=a3 c.2 (YS hc).2;simp only;omega
 ·obtain⟨-,-,q3,q4,-,-⟩:=eF h.hq;unfold mP;rw[ZG,Xo,zQ,Zk,gY,gY,gY];omega
theorem aaJ {g q r:aF} {m:aX} (h:zU g q r m):jr g q r m<=212/\(uJ g q r m).ah.length<=120/\∀e∈(uJ g q r m).ah,e.aj.length<=2/\e.ay.length<=2:=by
 obtain⟨⟨G,g0,g1⟩,g2,g3,g4,g5,g6⟩:=eF h.hg;obtain⟨⟨V,q0,q1⟩,q2,q3,q4,q5,q6⟩:=eF h.hq;obtain⟨⟨R,r0,r1⟩,r2,r3,r4,r5,r6⟩:=eF h.hr;obtain⟨d1,d2,d3⟩:=aeN (g:=g) (q:=q) (r:=r) (m:=m);refine⟨by unfold jr;omega,?_,λe he=>?_⟩
 ·have:=aaH m.ah g.ah.length;simp only[uJ,vN,Zk,ZG];omega
 ·rcases Zs.1 he with he|he
  ·obtain⟨i,hi,rfl⟩:=ZM.1 he;have hi2:=ZW.1 (YJ.1 hi).1;have:=g5 _ (pF hi2);simp only[PN,gY];exact this
  ·obtain⟨x,hx,rfl⟩:=ZM.1 he;simp only[jm,gY];exact r5 x hx
theorem acL {g q r:aF} {m:aX} (h:zU g q r m):Bg (uJ g q r m) (jr g q r m):=by
 obtain⟨⟨G,g0,g1⟩,g2,g3,g4,g5,g6⟩:=eF h.hg;obtain⟨⟨R,r0,r1⟩,r2,r3,r4,r5,r6⟩:=eF h.hr;obtain⟨d1,d2,d3⟩:=aeN (g:=g) (q:=q) (r:=r) (m:=m);obtain⟨l1,l2,l3⟩:=aaJ h;have hT:jr g q r m=G+R+IQ g q r m:=by unfold jr;omega
 have hi:(uJ g q r m).aj.length<=12:=g3;have ho:(uJ g q r m).ay.length<=12:=by show(aG _ _).length<=12;rw[gY];exact g4
 refine⟨by omega,⟨by omega,λe he=>by have:=l3 e he;omega,by omega,by omega⟩,?_,?_⟩
 ·intro k hk;have hD:∀(l:List Int),(∀k∈l,k∈g.places)->∀v∈aG (jq g q r m) l,0<=v/\v<((jr g q r m:Nat):Int):=λl hl=>aaI d3 λk hk=>by have:=g6 k (hl k hk);omega
  have hA:∀k,k∈g.places->0<=k/\k<((jr g q r m:Nat):Int):=λk hk=>by have:=g6 k hk;omega
  have hR:∀(l:List Int),(∀k∈l,k∈r.places)->∀v∈aG (bY g.aB.toNat r.aB.toNat) l,0<=v/\v<((jr g q r m:Nat):Int):=λl hl v hv=>by
   have:=aeH (a:=g.aB.toNat) (b:=r.aB.toNat) (l:=l) (λk hk=>by have:=r6 k (hl k hk);omega) v hv;omega
  rcases mem_pl.1 hk with hk|hk|⟨e,he,hk⟩
  ·exact hA k (mem_pl.2 (.inl hk))
  ·exact hD g.ay (λk hk=>mem_pl.2 (.inr (.inl hk))) k hk
  ·rcases Zs.1 he with he|he
   ·obtain⟨i,hi,rfl⟩:=ZM.1 he;have hi2:=ZW.1 (YJ.1 hi).1;have hm:=pF hi2;rcases hk with hk|hk
    ·exact hD _ (λk hk=>mem_pl.2 (.inr (.inr ⟨_,hm,.inl hk⟩))) k hk
    ·exact hA k (mem_pl.2 (.inr (.inr ⟨_,hm,.inr hk⟩)))
   ·obtain⟨x,hx,rfl⟩:=ZM.1 he;rcases hk with hk|hk
    ·exact hR _ (λk hk=>mem_pl.2 (.inr (.inr ⟨x,hx,.inl hk⟩))) k hk
    ·exact hR _ (λk hk=>mem_pl.2 (.inr (.inr ⟨x,hx,.inr hk⟩))) k hk
 ·unfold aF.iM aF.iZ;have a1:=PD aO.ay (uJ g q r m).ah (λe h=>(l3 e h).2);have b1:=PD aO.aj (uJ g q r m).ah (λe h=>(l3 e h).1);rw[Zk,Zk];omega
end Go.Proofs.YtkhpobekconobaaGreat
