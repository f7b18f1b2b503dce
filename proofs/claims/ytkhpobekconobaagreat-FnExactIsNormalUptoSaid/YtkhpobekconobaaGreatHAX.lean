import Derived.Test.YtkhpobekconobaaGreatHAW
set_option linter.all false
set_option maxRecDepth 100000
set_option maxHeartbeats 0
namespace Go.Proofs.YtkhpobekconobaaGreat
open Go.RowKit
theorem Cm.setW {g q:aF} {W V:Nat} (hq:lM g q W V) {ws es:List Int} (h:Cm g q W V ws es) {w v:Nat} (hw:w<V) (hv:v<W) (hn:ws.getD w 0=-1) (hm:¬(v:Int)∈ws):Cm g q W V (ws.set w (v:Int)) es/\iq ws (ws.set w (v:Int)):=by
 obtain⟨h1,h2,h3,h4⟩:=JV h.pw (by rw[h.wl];exact hw) (by omega) (by omega) (show Go.Proofs.YtkhpobekconobaaGreat.setW ws w (v:Int)=some (ws.set w (v:Int))by unfold Go.Proofs.YtkhpobekconobaaGreat.setW;rw[ZH (by rw[hn];simp),ZH hm]);refine⟨⟨by rw[h3,h.wl],h.el,h1,h.pe,λi hi hne=>?_⟩,h2⟩;obtain⟨k1,k2,k3⟩:=h.im i hi hne;refine⟨k1,k2,λp hp=>?_⟩;have e:=k3 p hp;have hr:=h.pe.rng i (by rw[h.el];exact hi);have hf:(es.getD i 0).toNat<g.ah.length:=by omega
 have m1:q.ah.getD i bQ∈q.ah:=by rw[Zg,Zi hi];exact Zp hi
 have m2:g.ah.getD (es.getD i 0).toNat bQ∈g.ah:=by rw[Zg,Zi hf];exact Zp hf
 obtain⟨b1,b2,b3⟩:=JZ hq m1 m2 p hp;rw[h2 p.1 (by rw[h.wl];exact b1) (by rw[e];omega),e]
theorem arC (g q:aF) (W V:Nat) (hq:KO g q W V) (N:Nat) (IH:∀M,M<N->afQ g q W V M):afQ g q W V N:=by
 intro vg gi go vq qi qo vx vy vo ws es out B u0 w hG hQ m_ huB hB hx hy hp JY hout qE;obtain⟨ga,gc,rfl⟩:=hG.slice;obtain⟨qa,qc,rfl⟩:=hQ.slice;obtain⟨xa,xc,ex⟩:=hx.slice;obtain⟨ya,yc,ey⟩:=hy.slice;obtain⟨oa,oc,rfl⟩:=qE.slice;rw[hp.wl]at ex;rw[hp.el]at ey;subst ex ey;have hb1:=aH w (.cells #[.int .i64 (W:Int),.slice ga g.ah.length gc,gi,go] 33);have hb2:=hb1.trans ((aH (w.alloc (.cells #[.int .i64 (W:Int),.slice ga g.ah.length gc,gi,go] 33)) (.cells #[.int .i64 (V:Int),.slice qa q.ah.length qc,qi,qo] 33)).mono hb1.size);have hb3:=hb2.trans ((aH ((w.alloc (.cells #[.int .i64 (W:Int),.slice ga g.ah.length gc,gi,go] 33)).alloc (.cells #[.int .i64 (V:Int),.slice qa q.ah.length qc,qi,qo] 33)) (.cells #[.slice xa V xc,.slice ya q.ah.length yc] 129)).mono hb2.size);have kG:=((Bk.new w 33 #[.int .i64 (W:Int),.slice ga g.ah.length gc,gi,go]).alloc (.cells #[.int .i64 (V:Int),.slice qa q.ah.length qc,qi,qo] 33)).alloc (.cells #[.slice xa V xc,.slice ya q.ah.length yc] 129);have kQ:=(Bk.new (w.alloc (.cells #[.int .i64 (W:Int),.slice ga g.ah.length gc,gi,go] 33)) 33 #[.int .i64 (V:Int),.slice qa q.ah.length qc,qi,qo]).alloc (.cells #[.slice xa V xc,.slice ya q.ah.length yc] 129);have kM:=Bk.new ((w.alloc (.cells #[.int .i64 (W:Int),.slice ga g.ah.length gc,gi,go] 33)).alloc (.cells #[.int .i64 (V:Int),.slice qa q.ah.length qc,qi,qo] 33)) 129 #[.slice xa V xc,.slice ya q.ah.length yc];simp only[Zn]at kQ kM;have hst:Ah g q V u0 w (((w.alloc (.cells #[.int .i64 (W:Int),.slice ga g.ah.length gc,gi,go] 33)).alloc (.cells #[.int .i64 (V:Int),.slice qa q.ah.length qc,qi,qo] 33)).alloc (.cells #[.slice xa V xc,.slice ya q.ah.length yc] 129)) B #[.int .i64 (W:Int),.slice ga g.ah.length gc,gi,go] #[.int .i64 (V:Int),.slice qa q.ah.length qc,qi,qo] xa xc ya yc (.slice oa out.length oc) (.slice oa out.length oc) ws es out:=⟨kG,kQ,kM,hx.keep hb3,hy.keep hb3,qE.keep hb3,(aC.refl _ _).below hb3,.inl rfl,m_.trans (hb3.mono m_.size),hB,huB⟩
 have HH:=Za (λ(wr:World) (v:Value) (ms:List aX) (h:Ah g q V u0 w wr B #[.int .i64 (W:Int),.slice ga g.ah.length gc,gi,go] #[.int .i64 (V:Int),.slice qa q.ah.length qc,qi,qo] xa xc ya yc (.slice oa out.length oc) v ws es ms) (e:Nat) (he:e<q.ah.length)=>arn g q W V hq _ gi go _ qi qo _ _ ws es e wr (hG.keep h.bu) (hQ.keep h.bu) h.rx.at h.ry.at hp he);have HW:=Za (λ(wr:World) (v:Value) (ms:List aX) (h:Ah g q V u0 w wr B #[.int .i64 (W:Int),.slice ga g.ah.length gc,gi,go] #[.int .i64 (V:Int),.slice qa q.ah.length qc,qi,qo] xa xc ya yc (.slice oa out.length oc) v ws es ms) (e f:Nat) (he:e<q.ah.length) (hf:f<g.ah.length)=>ajv g q W V hq _ gi go _ qi qo _ _ ws es e f wr (hG.keep h.bu) (hQ.keep h.bu) h.rx.at h.ry.at hp he hf);have HR:=Za (λ(w1:World) (v:Value) (ms:List aX) (a:Option Addr) (c:Nat) (b:Option Addr) (d:Nat) (ws' es':List Int) (hb:Below u0.heap.size u0 w1) (b_:B<=w1.heap.size) (h1:Rw w1 0 (.slice a V c) ws') (h2:Rw w1 0 (.slice b q.ah.length d) es') (zV:Cm g q W V ws' es') (hc:es'.count (-1)+ws'.count (-1)<N) (hl:ms.length<100) (hm:lT w1 B v ms)=>IH _ hc _ gi go _ qi qo _ _ v ws' es' ms B u0 w1 hG hQ hb huB b_ h1 h2 zV rfl hl hm);have I_:=hq.nG;have EM:=hq.nQ;have Ae:=hq.nV;have hnW:=hq.nW;have HM:=Za hq.mq;have HP:=Za hp;have HC:=Za JY;have HE:=Za (λ(j:Nat) (hj:j<q.ah.length)=>hp.pe.rng j (by rw[hp.el];exact hj));have HV:=Za (λ(j:Nat) (hj:j<V)=>hp.pw.rng j (by rw[hp.wl];exact hj));clear hb1 hb2 hb3 kG kQ kM hG hQ m_ huB hB hx hy hp JY qE hq IH;go_enter Tryz.func77,Tryz.ntmps77;go_wp2_with fail
 generalize(((w.alloc (.cells #[.int .i64 (W:Int),.slice ga g.ah.length gc,gi,go] 33)).alloc (.cells #[.int .i64 (V:Int),.slice qa q.ah.length qc,qi,qo] 33)).alloc (.cells #[.slice xa V xc,.slice ya q.ah.length yc] 129))=u1 at *;obtain⟨G0,-,gz⟩:=hst.kg.cell;have g1:=G0 1;have g2:=G0 2;have g3:=G0 3;have g0:=G0 0;obtain⟨Q0,-,qz⟩:=hst.kq.cell;have q1:=Q0 1;have q2:=Q0 2;have q3:=Q0 3;have q0:=Q0 0;obtain⟨M0,-,mz⟩:=hst.km.cell;have m1:=M0 1;have m0:=M0 0;simp only[Ze,Zc,Zd]at g0 g1 g2 g3 q0 q1 q2 q3 m0 m1;clear G0 Q0 M0;go_wp2_with fail
 clear g0 g1 g2 g3 gz q0 q1 q2 q3 qz m0 m1 mz;go_loopw [21] (λiv wr=>∃k:Nat,k<=q.ah.length/\iv=.int .i64 k/\Ah g q V u0 w wr B #[.int .i64 (W:Int),.slice ga g.ah.length gc,gi,go] #[.int .i64 (V:Int),.slice qa q.ah.length qc,qi,qo] xa xc ya yc (.slice oa out.length oc) (.slice oa out.length oc) ws es out) (λiv _=>q.ah.length-(intOf iv).toNat)
 case atStart=>exact⟨0,Zw _,rfl,hst⟩
 case round =>
  clear hst;obtain⟨k,hk,rfl,hst⟩:=hrel;by_cases hlt:k<q.ah.length
  ·obtain⟨G0,-,gz⟩:=hst.kg.cell;have g1:=G0 1;have g2:=G0 2;have g3:=G0 3;have g0:=G0 0;obtain⟨Q0,-,qz⟩:=hst.kq.cell;have q1:=Q0 1;have q2:=Q0 2;have q3:=Q0 3;have q0:=Q0 0;obtain⟨M0,-,mz⟩:=hst.km.cell;have m1:=M0 1;have m0:=M0 0;simp only[Ze,Zc,Zd]at g0 g1 g2 g3 q0 q1 q2 q3 m0 m1;clear G0 Q0 M0;obtain⟨yb,yo,rfl,c0⟩:=ints_at hst.ry.at (i:=k) (by rw[HP.out.el];exact hlt)
   rw[show es[k]'(by rw[HP.out.el];exact hlt)=es.getD k 0 by rw[Zg,Zi];rfl]at c0;have hrg:=HE.out k hlt;obtain⟨z,hz⟩:∃z,es.getD k 0=z:=⟨_,rfl⟩
   rw[hz]at c0 hrg;have HZ:=Za hz;have HST:=Za hst;have cz:=cell_lt c0;clear hz hst;by_cases hz0:z<0
   ·go_wp2_with fail
    refine(HH.out wr _ _ HST.out k hlt).mono ?_;rintro e w1⟨b,rfl,aI,hno⟩;have dS:=HST.out.keep aI;cases b with
    | true =>
     clear hno c0 cz aI HST;clear g0 g1 g2 g3 gz q0 q1 q2 q3 qz m0 m1 mz;go_wp2;go_roundw
     case rel=>exact⟨k+1,by omega,by go_num,dS⟩
     case measure=>simp[intOf];omega
    | false =>
     have HD:=Za (dS.done (out:=out) (by rw[aoo HM.out hlt (hno rfl),ZZ,ac9 (by omega)]));clear hno c0 cz aI HST dS;clear g0 g1 g2 g3 gz q0 q1 q2 q3 qz m0 m1 mz;go_wp2;go_ret;exact HD.out
   ·have hst:=HST.out;go_wp2;go_roundw
    case rel=>exact⟨k+1,by omega,by go_num,hst⟩
    case measure=>simp[intOf];omega
  ·obtain rfl:k=q.ah.length:=by omega
   generalize wr=wo at *;obtain⟨G0,-,gz⟩:=hst.kg.cell;have g1:=G0 1;have g2:=G0 2;have g3:=G0 3;have g0:=G0 0;obtain⟨Q0,-,qz⟩:=hst.kq.cell;have q1:=Q0 1;have q2:=Q0 2;have q3:=Q0 3;have q0:=Q0 0;obtain⟨M0,-,mz⟩:=hst.km.cell;have m1:=M0 1;have m0:=M0 0;simp only[Ze,Zc,Zd]at g0 g1 g2 g3 q0 q1 q2 q3 m0 m1;clear G0 Q0 M0;go_wp2_with fail
   clear g0 g1 g2 g3 gz q0 q1 q2 q3 qz m0 m1 mz;go_loopw [3,43] (λov iv wr=>∃k:Nat,k<=q.ah.length/\ov=(.slice oa out.length oc)/\iv=.int .i64 k/\Ah g q V u0 w wr B #[.int .i64 (W:Int),.slice ga g.ah.length gc,gi,go] #[.int .i64 (V:Int),.slice qa q.ah.length qc,qi,qo] xa xc ya yc (.slice oa out.length oc) (.slice oa out.length oc) ws es out/\∀j,j<k->es.getD j 0≠-1) (λ_ iv _=>q.ah.length-(intOf iv).toNat)
   case atStart=>exact⟨0,Zw _,rfl,rfl,hst,λj hj=>by omega⟩
   case round =>
    clear hst;obtain⟨k,hk,rfl,rfl,hst,jS⟩:=hrel;have HF:=Za jS;clear jS;by_cases hlt:k<q.ah.length
    ·obtain⟨G0,-,gz⟩:=hst.kg.cell;have g1:=G0 1;have g2:=G0 2;have g3:=G0 3;have g0:=G0 0;obtain⟨Q0,-,qz⟩:=hst.kq.cell;have q1:=Q0 1;have q2:=Q0 2;have q3:=Q0 3;have q0:=Q0 0;obtain⟨M0,-,mz⟩:=hst.km.cell;have m1:=M0 1;have m0:=M0 0;simp only[Ze,Zc,Zd]at g0 g1 g2 g3 q0 q1 q2 q3 m0 m1;clear G0 Q0 M0;obtain⟨yb,yo,rfl,c0⟩:=ints_at hst.ry.at (i:=k) (by rw[HP.out.el];exact hlt)
     rw[show es[k]'(by rw[HP.out.el];exact hlt)=es.getD k 0 by rw[Zg,Zi];rfl]at c0;have hrg:=HE.out k hlt;obtain⟨z,hz⟩:∃z,es.getD k 0=z:=⟨_,rfl⟩
     rw[hz]at c0 hrg;have HZ:=Za hz;have cz:=cell_lt c0;clear hz;by_cases hz0:0<=z
     ·have HS:=Za hst;clear hst;go_wp2;go_roundw
      case rel=>exact⟨k+1,by omega,rfl,by go_num,HS.out,λj hj=>by
       rcases Yj j k with h|h
       ·exact HF.out j h
       ·obtain rfl:j=k:=by omega
        rw[HZ.out];omega⟩
      case measure=>simp[intOf];omega
     ·obtain rfl:z=-1:=by omega
      generalize wr=wo at *;have HS:=Za hst;clear hst;go_wp2_with fail
      have hst:=HS.out;clear HS c0 cz;clear g0 g1 g2 g3 gz q0 q1 q2 q3 qz m0 m1 mz;go_loopw [3,55] (λov iv wr=>∃(k2:Nat) (ms:List aX),k2<=g.ah.length/\iv=.int .i64 k2/\ms=cut (out++Jb g q ws es k k2)/\Ah g q V u0 w wr B #[.int .i64 (W:Int),.slice ga g.ah.length gc,gi,go] #[.int .i64 (V:Int),.slice qa q.ah.length qc,qi,qo] xa xc (some ⟨yb,yo,none⟩) yc (.slice oa out.length oc) ov ws es ms) (λ_ iv _=>g.ah.length-(intOf iv).toNat)
      case atStart=>exact⟨0,out,Zw _,rfl,by rw[arp HM.out hlt,ZZ,ac9 (by omega)],hst⟩
      case round =>
       clear hst;obtain⟨k2,ms,hk2,rfl,qE,hst⟩:=hrel;obtain⟨oa2,oc2,rfl⟩:=hst.ms.slice;have rY:=Za qE;have sN:ms.length<=100:=by rw[qE];exact ac8 _
       clear qE;by_cases zL:k2<g.ah.length
       ·by_cases hl:ms.length<100
        ·obtain⟨G0,-,gz⟩:=hst.kg.cell;have g1:=G0 1;have g2:=G0 2;have g3:=G0 3;have g0:=G0 0;obtain⟨Q0,-,qz⟩:=hst.kq.cell;have q1:=Q0 1;have q2:=Q0 2;have q3:=Q0 3;have q0:=Q0 0;obtain⟨M0,-,mz⟩:=hst.km.cell;have m1:=M0 1;have m0:=M0 0;simp only[Ze,Zc,Zd]at g0 g1 g2 g3 q0 q1 q2 q3 m0 m1;clear G0 Q0 M0;have HS:=Za hst;clear hst;go_wp2_with fail
         refine(HW.out wr _ _ HS.out k k2 hlt zL).mono ?_;rintro e w1⟨ok,a,c,b,d,ws',es',rfl,h1,h2,hb1,iH,hl2,Un,hno⟩;have dS:=HS.out.keep hb1;have hid:ms=out++Jb g q ws es k k2:=by rw[rY.out]at hl ⊢;exact ajX hl
         have hsu:=arv (ws:=ws) HM.out (by rw[HP.out.el];omega) HF.out k2;clear g0 g1 g2 g3 gz q0 q1 q2 q3 qz m0 m1 mz;clear HS;have hst:=dS;clear dS;obtain⟨G0,-,gz⟩:=hst.kg.cell;have g1:=G0 1;have g2:=G0 2;have g3:=G0 3;have g0:=G0 0;obtain⟨Q0,-,qz⟩:=hst.kq.cell;have q1:=Q0 1;have q2:=Q0 2;have q3:=Q0 3;have q0:=Q0 0;obtain⟨M0,-,mz⟩:=hst.km.cell;have m1:=M0 1;have m0:=M0 0;simp only[Ze,Zc,Zd]at g0 g1 g2 g3 q0 q1 q2 q3 m0 m1;clear G0 Q0 M0;cases ok with
         | true =>
          obtain⟨y1,y2,y3,y4,y5⟩:=Un rfl;rw[aom HM.out (by rw[HP.out.wl,iH]) (by rw[HP.out.el,hl2]) (by rw[hl2];exact hlt) y2 y3 y4 y5]at hsu;have hne:es.count (-1)+ws.count (-1)=N:=HC.out;have hc1:=afR (by rw[HP.out.wl,iH]) y3 (λ_ _ _=>trivial);have hc2:=afS (k:=k) (by rw[HP.out.el,hl2]) y4 (by rw[HP.out.el];exact hlt) HZ.out (by rw[y2];omega);have hA:=aH w1 (.cells #[.slice a V c,.slice b q.ah.length d] 129);have dK:=hst.keep hA;have HS:=Za dK;have aj7:cut (ms++pG g q ws' es')=cut (out++Jb g q ws es k (k2+1)):=by rw[hid,hsu,Zz]
          have HK:=Za aj7;have HRR:=Za (HR.out _ _ ms a c b d ws' es' dK.bu (ZI dK.hB dK.ex.size) ((h1.mono (Zw _)).keep hA) ((h2.mono (Zw _)).keep hA) y1 (by omega) hl dK.ms);clear hid hsu Un hno h1 h2 iH hl2 y1 y2 y3 y4 y5 hc1 hc2 hne hst dK hA aj7;go_wp2_with fail
          refine HRR.out.mono ?_;rintro e w2⟨v,rfl,hm,hx,ho⟩;have kV:=HS.out.call hm hx ho;rw[HK.out]at kV;clear HRR hm hx ho HS HK;clear g0 g1 g2 g3 gz q0 q1 q2 q3 qz m0 m1 mz;go_wp2;go_roundw
          case rel=>exact⟨k2+1,_,by omega,by go_num,rfl,kV⟩
          case measure=>simp[intOf];omega
         | false =>
          rw[aon HM.out (hno rfl),ZZ]at hsu;have hA:=aH w1 (.cells #[.slice a V c,.slice b q.ah.length d] 129);have dK:=hst.keep hA;have HS:=Za dK;have HK:=Za (show ms=cut (out++Jb g q ws es k (k2+1))by rw[hsu];exact rY.out);clear hid hsu Un hno h1 h2 iH hl2 hst dK hA;go_wp2;go_roundw
          case rel=>exact⟨k2+1,ms,by omega,by go_num,HK.out,HS.out⟩
          case measure=>simp[intOf];omega
        ·have HD:=Za (hst.done (out:=out) (by
          rw[rY.out]at hl ⊢;exact ajY hl (arx HM.out (by rw[HP.out.el];omega) HF.out k2)))
         clear hst;go_wp2;go_ret;exact HD.out
       ·obtain rfl:k2=g.ah.length:=by omega
        have HD:=Za (hst.done (out:=out) (by rw[rY.out,ars HM.out hlt]));clear hst;go_wp2;go_ret;exact HD.out
    ·obtain rfl:k=q.ah.length:=by omega
     generalize wr=wo at *;have hes:∀j,j<es.length->es.getD j 0≠-1:=λj hj=>HF.out j (by rw[HP.out.el]at hj;exact hj);have HES:=Za hes;clear hes;obtain⟨G0,-,gz⟩:=hst.kg.cell;have g1:=G0 1;have g2:=G0 2;have g3:=G0 3;have g0:=G0 0;obtain⟨Q0,-,qz⟩:=hst.kq.cell;have q1:=Q0 1;have q2:=Q0 2;have q3:=Q0 3;have q0:=Q0 0;obtain⟨M0,-,mz⟩:=hst.km.cell;have m1:=M0 1;have m0:=M0 0;simp only[Ze,Zc,Zd]at g0 g1 g2 g3 q0 q1 q2 q3 m0 m1;clear G0 Q0 M0;go_wp2_with fail
     clear g0 g1 g2 g3 gz q0 q1 q2 q3 qz m0 m1 mz;go_loopw [3,83] (λov iv wr=>∃k:Nat,k<=V/\ov=(.slice oa out.length oc)/\iv=.int .i64 k/\Ah g q V u0 w wr B #[.int .i64 (W:Int),.slice ga g.ah.length gc,gi,go] #[.int .i64 (V:Int),.slice qa q.ah.length qc,qi,qo] xa xc ya yc (.slice oa out.length oc) (.slice oa out.length oc) ws es out/\∀j,j<k->ws.getD j 0≠-1) (λ_ iv _=>V-(intOf iv).toNat)
     case atStart=>exact⟨0,Zw _,rfl,rfl,hst,λj hj=>by omega⟩
     case round =>
      clear hst HF;obtain⟨k,hk,rfl,rfl,hst,jS⟩:=hrel;have HF:=Za jS;clear jS;by_cases hlt:k<V
      ·obtain⟨G0,-,gz⟩:=hst.kg.cell;have g1:=G0 1;have g2:=G0 2;have g3:=G0 3;have g0:=G0 0;obtain⟨Q0,-,qz⟩:=hst.kq.cell;have q1:=Q0 1;have q2:=Q0 2;have q3:=Q0 3;have q0:=Q0 0;obtain⟨M0,-,mz⟩:=hst.km.cell;have m1:=M0 1;have m0:=M0 0;simp only[Ze,Zc,Zd]at g0 g1 g2 g3 q0 q1 q2 q3 m0 m1;clear G0 Q0 M0;obtain⟨xb,xo,rfl,c0⟩:=ints_at hst.rx.at (i:=k) (by rw[HP.out.wl];exact hlt)
       rw[show ws[k]'(by rw[HP.out.wl];exact hlt)=ws.getD k 0 by rw[Zg,Zi];rfl]at c0;have hrg:=HV.out k hlt;obtain⟨z,hz⟩:∃z,ws.getD k 0=z:=⟨_,rfl⟩
       rw[hz]at c0 hrg;have HZ:=Za hz;have cz:=cell_lt c0;clear hz;by_cases hz0:0<=z
       ·have HS:=Za hst;clear hst;go_wp2;go_roundw
        case rel=>exact⟨k+1,by omega,rfl,by go_num,HS.out,λj hj=>by
         rcases Yj j k with h|h
         ·exact HF.out j h
         ·obtain rfl:j=k:=by omega
          rw[HZ.out];omega⟩
        case measure=>simp[intOf];omega
       ·obtain rfl:z=-1:=by omega
        generalize wr=wo at *;have HS:=Za hst;clear hst;go_wp2_with fail
        have hst:=HS.out;clear HS c0 cz;clear g0 g1 g2 g3 gz q0 q1 q2 q3 qz m0 m1 mz;go_loopw [3,16] (λov iv wr=>∃(k2:Nat) (ms:List aX),k2<=W/\iv=.int .i64 k2/\ms=cut (out++Ag g q ws es k k2)/\Ah g q V u0 w wr B #[.int .i64 (W:Int),.slice ga g.ah.length gc,gi,go] #[.int .i64 (V:Int),.slice qa q.ah.length qc,qi,qo] (some ⟨xb,xo,none⟩) xc ya yc (.slice oa out.length oc) ov ws es ms) (λ_ iv _=>W-(intOf iv).toNat)
        case atStart=>exact⟨0,out,Zw _,rfl,by rw[arq HM.out hlt,ZZ,ac9 (by omega)],hst⟩
        case round =>
         clear hst;obtain⟨k2,ms,hk2,rfl,qE,hst⟩:=hrel;obtain⟨oa2,oc2,rfl⟩:=hst.ms.slice;have rY:=Za qE;have sN:ms.length<=100:=by rw[qE];exact ac8 _
         clear qE;by_cases zL:k2<W
         ·by_cases hl:ms.length<100
          ·obtain⟨G0,-,gz⟩:=hst.kg.cell;have g1:=G0 1;have g2:=G0 2;have g3:=G0 3;have g0:=G0 0;obtain⟨Q0,-,qz⟩:=hst.kq.cell;have q1:=Q0 1;have q2:=Q0 2;have q3:=Q0 3;have q0:=Q0 0;obtain⟨M0,-,mz⟩:=hst.km.cell;have m1:=M0 1;have m0:=M0 0;simp only[Ze,Zc,Zd]at g0 g1 g2 g3 q0 q1 q2 q3 m0 m1;clear G0 Q0 M0;have HS:=Za hst;have qZ:ws.length<=1048576:=by rw[HP.out.wl];omega
           have aj8:=Ub _ ws (k2:Int) wr hst.rx.at qZ;have hid:ms=out++Ag g q ws es k k2:=by rw[rY.out]at hl ⊢;exact ajX hl
           have hsu:=arw HM.out (by rw[HP.out.wl];omega) HF.out HP.out.el HES.out k2;have QA:=Za (Zb hid hsu);clear hid hsu hst qZ;have arD:=Za aj8;clear aj8;go_wp2_with fail
           refine arD.out.mono ?_;rintro e w1⟨he,rfl⟩;by_cases oI:((k2:Nat):Int)∈ws
           ·rw[Yn oI]at he;subst he;have HK:=Za (show ms=cut (out++Ag g q ws es k (k2+1))by rw[QA.out.2,aoq HM.out HP.out.wl (by rw[HP.out.wl];exact hlt) HZ.out oI,ZZ];exact rY.out);clear oI;go_wp2;go_roundw
            case rel=>exact⟨k2+1,ms,by omega,by go_num,HK.out,HS.out⟩
            case measure=>simp[intOf];omega
           ·rw[YH oI]at he;subst he;have hsu:=QA.out.2;rw[aop HM.out (by rw[HP.out.wl];exact hlt) HZ.out]at hsu;have HK:=Za (show cut (ms++pG g q (ws.set k (k2:Int)) es)=cut (out++Ag g q ws es k (k2+1))by rw[hsu,<-Zz,<-QA.out.1]);have QD:=Za oI;clear oI hsu;go_wp2_with fail
            have fH:∀{w':World},aC dD wr.drew w'->Below wr.heap.size wr w':=λh=>(Zl wr.heap.size wr).drew.trans (h.toBelow.mono (by simp));refine h_ (C:=aC (dD) _) 8 [0,1,2,3,4,5,6,7] (by kernel_rfl) (by kernel_rfl) (aC.aJ _ _) (aC.refl _ _) ?_;iterate 2 (apply dh rfl rfl rfl;(focus intro u hc' hf';go_simp<;>rfl);intro K hK;go_simp;apply hK;clear hK K)
            refine fD rfl rfl rfl (aC.aJ _ _) (aC.refl _ _) 84 (λK hK=>?_);apply Zq;refine⟨λw' hw'=>?_,λwa bT bZ=>?_⟩;(focus go_simp;rfl);refine(Cc _ ws _ (HS.out.rx.at.keep (fH bT)) (by rw[HP.out.wl];omega)).mono ?_;rintro e w3⟨v3,rfl,hr3,hb3⟩;refine⟨_,rfl,hb3,λhx=>?_⟩;go_simp;apply hK;clear hK K;obtain⟨a3,c3,e3⟩:=hr3.slice;rw[HP.out.wl]at e3;subst e3;iterate 3 (apply dh rfl rfl rfl;(focus intro u hc' hf';go_simp<;>rfl);intro K hK;go_simp;apply hK;clear hK K)
            refine ku rfl rfl rfl (aC.aJ _ _) hx (λb=>.pointer (some ⟨b,0,none⟩)) (λK hK=>?_);apply Zq;refine⟨λw' hw'=>?_,λbb w4 hw4 hb4 aW hNb d_=>?_⟩
            ·go_simp;rfl
            go_simp;refine hK _ _ _ ?_;clear hK K;refine jd rfl rfl rfl (aC.aJ _ _) hw4 (λK hK=>?_);intro w5 gu bH;obtain⟨n0,n1,n2⟩:=made_cell ((bH.block bb (made_cell aW).2.2).trans aW);refine⟨(w5.setCell ⟨bb,0,none⟩ (.slice a3 V c3)).setCell ⟨bb,1,none⟩ (.slice ya q.ah.length yc),?_,⟨bF (bF gu (.inl hNb) _) (.inl hNb) _,by simp,λj _ hj _=>by rw[Zm _ _ _ _ (λh=>hj (by simp[h])),Zm _ _ _ _ (λh=>hj (by simp[h]))]⟩,?_⟩
            ·go_simp
            go_simp;refine hK _ _ _ ?_;clear hK K;refine dR ?_;have kB:Bk ((w5.setCell ⟨bb,0,none⟩ (.slice a3 V c3)).setCell ⟨bb,1,none⟩ (.slice ya q.ah.length yc)) bb 129 #[.slice a3 V c3,.slice ya q.ah.length yc]:=by
             have h0:Bk w5 bb 129 _:=(bH.block bb (made_cell aW).2.2).trans aW;simpa using(h0.set 0 (.slice a3 V c3)).set 1 (.slice ya q.ah.length yc)
            have wu:wr.heap.size<=bb:=by simpa using hNb
            have eY:Below wr.heap.size wr ((w5.setCell ⟨bb,0,none⟩ (.slice a3 V c3)).setCell ⟨bb,1,none⟩ (.slice ya q.ah.length yc)):=((((Zl _ wr).drew.trans (gu.toBelow.mono (by simp))).setCell wu _).setCell wu _)
            have fQ:Rw ((w5.setCell ⟨bb,0,none⟩ (.slice a3 V c3)).setCell ⟨bb,1,none⟩ (.slice ya q.ah.length yc)) wr.heap.size (.slice a3 V c3) ws:=by
             have h0:Bk w5 bb 129 _:=(bH.block bb (made_cell aW).2.2).trans aW;have h1:=((hr3.keep hb4).keep bH).mono (B':=wr.heap.size) (by have:=bZ.size;simpa using this);have h2:=eP h1 ⟨bb,0,none⟩ (.slice a3 V c3) (cO h1 h0 (by decide));exact eP h2 ⟨bb,1,none⟩ _ (cO h2 (h0.set 0 _) (by decide))
            generalize(w5.setCell ⟨bb,0,none⟩ (.slice a3 V c3)).setCell ⟨bb,1,none⟩ (.slice ya q.ah.length yc)=w6 at *;clear g0 g1 g2 g3 gz q0 q1 q2 q3 qz m0 m1 mz;clear hx bT bZ hb3 hr3 hw4 hb4 aW hNb d_ gu bH n0 n1 n2 fH;have hst:=HS.out.keep eY;obtain⟨d3,c',e,hg3,fU⟩:=fQ.block (by rw[HP.out.wl];omega);simp only[Zx]at e;obtain⟨rfl,-,rfl⟩:=e;obtain⟨⟨p0,pf⟩,cZ⟩:=Rw.setAt fQ HP.out.wl hlt (k2:Int);have hdb:¬bb=d3:=λe=>cO fQ kB (by decide) (by rw[e];rfl);have hmw:=HS.out.km.lt;have hd0:¬w.heap.size=d3:=by omega
            have hd1:¬w.heap.size+1=d3:=by omega
            have hd2:¬w.heap.size+2=d3:=by omega
            obtain⟨G0,-,gz⟩:=hst.kg.cell;have g1:=G0 1;have g2:=G0 2;have g3:=G0 3;have g0:=G0 0;obtain⟨Q0,-,qz⟩:=hst.kq.cell;have q1:=Q0 1;have q2:=Q0 2;have q3:=Q0 3;have q0:=Q0 0;obtain⟨M0,-,mz⟩:=hst.km.cell;have m1:=M0 1;have m0:=M0 0;simp only[Ze,Zc,Zd]at g0 g1 g2 g3 q0 q1 q2 q3 m0 m1;clear G0 Q0 M0;obtain⟨B0,-,bz⟩:=kB.cell;have b1:=B0 1;have b0:=B0 0;simp only[Ze,Zc,Zd]at b0 b1;clear B0;have iy:=eY.setCell (p:=⟨d3,k,none⟩) fU (.int .i64 (k2:Int));have pW:=HS.out.keep iy;have hpt:=Cm.setW HM.out HP.out hlt zL HZ.out QD.out;have hc2:=afS (k:=k) (by simp) hpt.2 (by rw[HP.out.wl];exact hlt) HZ.out (by rw[xR _ _ _ (by rw[HP.out.wl];exact hlt),ZE rfl];omega);have hne:es.count (-1)+ws.count (-1)=N:=HC.out;have HRR:=Za (HR.out _ _ ms (some ⟨d3,0,none⟩) c3 ya yc _ _ pW.bu (ZI pW.hB pW.ex.size) (cZ.mono (Zw _)) pW.ry hpt.1 (by omega) hl pW.ms);have HS7:=Za pW;clear hst pW hpt hc2 hne cZ fQ kB eY iy;go_wp2_with fail
            refine HRR.out.mono ?_;rintro e w2⟨v,rfl,hm,hx,ho⟩;have kV:=HS7.out.call hm hx ho;rw[HK.out]at kV;clear HRR hm hx ho HS HS7 HK;clear g0 g1 g2 g3 gz q0 q1 q2 q3 qz m0 m1 mz;clear b0 b1 bz p0 pf hdb hd0 hd1 hd2 hmw hg3 fU;go_wp2;go_roundw
            case rel=>exact⟨k2+1,_,by omega,by go_num,rfl,kV⟩
            case measure=>simp[intOf];omega
          ·have HD:=Za (hst.done (out:=out) (by
            rw[rY.out]at hl ⊢;exact ajY hl (arz HM.out (by rw[HP.out.wl];omega) HF.out HP.out.el HES.out k2)))
           obtain⟨G0,-,gz⟩:=hst.kg.cell;have g1:=G0 1;have g2:=G0 2;have g3:=G0 3;have g0:=G0 0;obtain⟨Q0,-,qz⟩:=hst.kq.cell;have q1:=Q0 1;have q2:=Q0 2;have q3:=Q0 3;have q0:=Q0 0;obtain⟨M0,-,mz⟩:=hst.km.cell;have m1:=M0 1;have m0:=M0 0;simp only[Ze,Zc,Zd]at g0 g1 g2 g3 q0 q1 q2 q3 m0 m1;clear G0 Q0 M0;clear hst;go_wp2;go_ret;exact HD.out
         ·obtain rfl:k2=W:=by omega
          have HD:=Za (hst.done (out:=out) (by rw[rY.out,aru HM.out hlt]));obtain⟨G0,-,gz⟩:=hst.kg.cell;have g1:=G0 1;have g2:=G0 2;have g3:=G0 3;have g0:=G0 0;obtain⟨Q0,-,qz⟩:=hst.kq.cell;have q1:=Q0 1;have q2:=Q0 2;have q3:=Q0 3;have q0:=Q0 0;obtain⟨M0,-,mz⟩:=hst.km.cell;have m1:=M0 1;have m0:=M0 0;simp only[Ze,Zc,Zd]at g0 g1 g2 g3 q0 q1 q2 q3 m0 m1;clear G0 Q0 M0;clear hst;go_wp2;go_ret;exact HD.out
      ·obtain rfl:k=V:=by omega
       have hws:∀j,j<ws.length->ws.getD j 0≠-1:=λj hj=>HF.out j (by rw[HP.out.wl]at hj;exact hj);have HFU:=Za (aor HM.out HP.out hws HES.out);clear hws;obtain⟨G0,-,gz⟩:=hst.kg.cell;have g1:=G0 1;have g2:=G0 2;have g3:=G0 3;have g0:=G0 0;obtain⟨Q0,-,qz⟩:=hst.kq.cell;have q1:=Q0 1;have q2:=Q0 2;have q3:=Q0 3;have q0:=Q0 0;obtain⟨M0,-,mz⟩:=hst.km.cell;have m1:=M0 1;have m0:=M0 0;simp only[Ze,Zc,Zd]at g0 g1 g2 g3 q0 q1 q2 q3 m0 m1;clear G0 Q0 M0;have HS:=Za hst;clear hst;go_wp2_with fail
       have fH:∀{w':World},aC dD wr.drew w'->Below wr.heap.size wr w':=λh=>(Zl wr.heap.size wr).drew.trans (h.toBelow.mono (by simp));refine yh (C:=aC (dD) _) 8 [0,1,2,3,4,5,6,7,8] [9,10] (by kernel_rfl) (by kernel_rfl) (aC.aJ _ _) (aC.refl _ _) ?_;iterate 3 (apply dh rfl rfl rfl;(focus intro u hc' hf';go_simp<;>rfl);intro K hK;go_simp;apply hK;clear hK K)
       refine fD rfl rfl rfl (aC.aJ _ _) (aC.refl _ _) 84 (λK hK=>?_);apply Zq;refine⟨λw' hw'=>?_,λwa bT bZ=>?_⟩;(focus go_simp;rfl);refine(Cc _ ws _ (HS.out.rx.at.keep (fH bT)) (by rw[HP.out.wl];omega)).mono ?_;rintro e w3⟨v3,rfl,hr3,hb3⟩;refine⟨_,rfl,hb3,λhx=>?_⟩;go_simp;apply hK;clear hK K;obtain⟨a3,c3,e3⟩:=hr3.slice;rw[HP.out.wl]at e3;subst e3;iterate 2 (apply dh rfl rfl rfl;(focus intro u hc' hf';go_simp<;>rfl);intro K hK;go_simp;apply hK;clear hK K)
       refine fD rfl rfl rfl (aC.aJ _ _) (hx) 84 (λK hK=>?_);apply Zq;refine⟨λw' hw'=>?_,λwb dJ dH=>?_⟩;(focus go_simp;rfl);refine(Cc _ es _ (HS.out.ry.at.keep (fH dJ)) (by rw[HP.out.el];omega)).mono ?_;rintro e w4⟨v4,rfl,hr4,hb4⟩;refine⟨_,rfl,hb4,λhx=>?_⟩;go_simp;apply hK;clear hK K;obtain⟨a4,c4,e4⟩:=hr4.slice;rw[HP.out.el]at e4;subst e4;iterate 1 (apply dh rfl rfl rfl;(focus intro u hc' hf';go_simp<;>rfl);intro K hK;go_simp;apply hK;clear hK K)
       refine ku rfl rfl rfl (aC.aJ _ _) (hx) (λb=>.slice (some ⟨b,0,none⟩) 1 1) (λK hK=>?_);apply Zq;refine⟨λw' hw'=>?_,λbb w5 gu bH aW hNb d_=>?_⟩
       ·obtain⟨hc',hf'⟩:=hw'.cell
        try simp only[Zo]at hc' hf'
        go_simp;rfl
       go_simp;refine hK _ _ _ ?_;clear hK K;refine dR ?_;have K_:=fH gu;have ji:=HS.out.keep K_;have hsz:=K_.size;have hsw:=HS.out.ex.size;have b_:=HS.out.hB;have DX:=bZ.size;have Kt:=dH.size;have hs3:=hb3.size;simp only[Zo]at DX;have aj9:=(((hr3.keep dH).keep hb4).keep bH).mono (B':=B) (by omega);have akb:=(hr4.keep bH).mono (B':=B) (by omega);refine⟨aC (λj=>(Value.slice oa out.length oc).ownBlock=some j) w5,w5.heap.size,aC.aJ _ _,aC.refl _ _,?_⟩;refine arB rfl rfl rfl (aC.refl _ _) (.tmp 123) (.tmp 131) rfl B (.slice oa out.length oc) out bb ⟨ws,es⟩ (.slice a3 _ c3) (.slice a4 q.ah.length c4) rfl rfl (λj hj=>.inl ⟨(ji.ms.lt j hj).2,hj⟩) (by omega) (by omega) ji.ms (by simpa using aW) aj9 akb ?_;intro K hK w6 w7 v7 jk aV QE Ac La yu;go_simp;refine hK _ _ _ ?_;clear hK K;iterate 1 (apply i_ rfl rfl rfl;(focus intro u hc' hf';(try simp only[Zo]at hc' hf');go_simp<;>rfl);intro K hK;go_simp;apply hK;clear hK K)
       refine dR ?_;have II:=jk.size;have hend:SrP g q ws es B (.slice oa out.length oc) out w (.returned v7) w7:=⟨v7,rfl,by
        rw[HFU.out,ac9 (by rw[Zk];simp;omega)];exact QE,yF ji.ex La (λj hj=>.inl hj),by
        rcases yu with h|h
        ·exact .inl h
        ·refine .inr λj hj=>?_;rw[h]at hj;have:=Zy hj;omega⟩
       have HD:=Za hend;clear hend ji aj9 akb hr3 hr4 bZ dH bT dJ hx hb3 hb4 gu bH aW hNb d_ jk aV QE Ac La yu fH;go_wp2;go_ret;exact HD.out
theorem arE (g q:aF) (W V:Nat) (hq:KO g q W V) (N:Nat):afQ g q W V N :=
 Nat.strongRecOn N λN ih=>arC g q W V hq N ih
theorem akc {ops:Array Oper} {Q:Exit->Act->World->Prop} {T:Nat->Prop} {w0:World} {i:Nat} {l:List Nat} {bs:Nat->Prop} {a:Act} {w:World} {o:Oper} (ho:ops[i]?=some o) (hk:jW o=.make) (hg:o.guard=none) (hC:aC T w0 w) (x y:Operand)
  (hop:o.op=Op.makeSlice 23 x y) (n:Nat) (hx:a.eval x=.int .i64 n) (hy:a.eval y=.int .i64 n) (hn:n<=1000000)
  (h:∀K:(Nat->Prop)->Act->World->Prop,(∀bs a w,WX Tryz.prog ops (aC T w0) w0.heap.size Q l bs a w->K bs a w)->∀b w',aC T w0 w'->Below w.heap.size w w'->w0.heap.size<=b->¬bs b->Rw w' w0.heap.size (.slice (some ⟨b,0,none⟩) n n) (List.replicate n 0) ->
   K (λk=>k=b\/bs k) (a.put o.dst (.slice (some ⟨b,0,none⟩) n n)) w'):WX Tryz.prog ops (aC T w0) w0.heap.size Q (i::l) bs a w:=by
 obtain⟨i0,hi,hz0,hz1,hz2⟩:=Yg yV;refine ku ho hk hg (aC.aJ _ _) hC (λb=>.slice (some ⟨b,0,none⟩) n n) (λK hK=>?_);refine⟨.cells (madeCells (gU 0).toArray (n*1)) 3,λw' hw'=>?_,λb w' hw' hb aW hN JF=>h K hK b w' hw' hb hN JF ?_⟩
 ·have hrun:=run_make (P:=Tryz.prog) (w:=w') 23 3 i0 _ Tryz.underlying23 hi hz0 .i64 .i64 n n (by omega) (Wx _) (by rw[hz2];omega) (by omega);rw[hz1]at hrun;simp only[Zr]at hrun;simp[execOp,hop,hx,hy,hrun,Result.andThen];first|done|rfl
 ·have hz:=vZ (f:=gU) (0:Int) n (sz:=1) (by omega) rfl;unfold Rw;rw[Yi,<-hz];have hsz:(madeCells (gU 0).toArray (n*1)).size=n*1:=size_madeCells _ _;exact⟨by simpa using hsz,.inr ⟨b,n,_,rfl,hN,aW,Zj _,by unfold maxLen;omega,hsz,ZX (by rw[Wp,hsz];exact Zj _)⟩⟩
def MaP (ms:List aX) (w:World) (e:Ending) (w':World):Prop:=∃v,e=.returned v/\lT w' w.heap.size v ms/\Below w.heap.size w w'
def o8 (g q:aF):List aX:=if 12<q.ah.length then[]else cut (xU g q)
structure Ur (V n:Nat) (w wr:World) (lF lH:Array Value) (bb b1 b2:Nat) (ws es:List Int):Prop where
 kg:Bk wr w.heap.size 33 lF
 kq:Bk wr (w.heap.size+1) 33 lH
 km:Bk wr bb 129 #[.slice (some ⟨b1,0,none⟩) V V,.slice (some ⟨b2,0,none⟩) n n]
 rw:Rw wr w.heap.size (.slice (some ⟨b1,0,none⟩) V V) ws
 re:Rw wr w.heap.size (.slice (some ⟨b2,0,none⟩) n n) es
 n1:w.heap.size+2<=b1/\w.heap.size+2<=b2/\w.heap.size+2<=bb
 n2:b1≠b2/\b1≠bb/\b2≠bb
 bel:Below w.heap.size w wr
theorem arF (g q:aF) (W V:Nat) (hq:KO g q W V) (vg gi go vq qi qo:Value) (w:World) (hG:oM w vg g.ah) (hQ:oM w vq q.ah) :
  Calls Tryz.prog 55 #[.agg #[.int .i64 (W:Int),vg,gi,go],.agg #[.int .i64 (V:Int),vq,qi,qo]] w (MaP (o8 g q) w):=by
 obtain⟨ga,gc,rfl⟩:=hG.slice;obtain⟨qa,qc,rfl⟩:=hQ.slice;have hb1:=aH w (.cells #[.int .i64 (W:Int),.slice ga g.ah.length gc,gi,go] 33);have hb2:=hb1.trans ((aH (w.alloc (.cells #[.int .i64 (W:Int),.slice ga g.ah.length gc,gi,go] 33)) (.cells #[.int .i64 (V:Int),.slice qa q.ah.length qc,qi,qo] 33)).mono hb1.size);have kG:=(Bk.new w 33 #[.int .i64 (W:Int),.slice ga g.ah.length gc,gi,go]).alloc (.cells #[.int .i64 (V:Int),.slice qa q.ah.length qc,qi,qo] 33);have kQ:=Bk.new (w.alloc (.cells #[.int .i64 (W:Int),.slice ga g.ah.length gc,gi,go] 33)) 33 #[.int .i64 (V:Int),.slice qa q.ah.length qc,qi,qo];simp only[Zn]at kQ;have hz2:((w.alloc (.cells #[.int .i64 (W:Int),.slice ga g.ah.length gc,gi,go] 33)).alloc (.cells #[.int .i64 (V:Int),.slice qa q.ah.length qc,qi,qo] 33)).heap.size=w.heap.size+2:=by simp
 have HS:=Za (λ(w1:World) (h:Below w.heap.size w w1) (xa ya:Option Addr) (xc yc:Nat) (h1:Rw w1 0 (.slice xa V xc) (List.replicate V (-1))) (h2:Rw w1 0 (.slice ya q.ah.length yc) (List.replicate q.ah.length (-1)))=>arE g q W V hq _ _ gi go _ qi qo _ _ (.slice none 0 0) _ _ [] w.heap.size w w1 hG hQ h (Zj _) h.size h1 h2 (aj0 hq.mq) rfl (by simp) (lT.nil _ _));have I_:=hq.nG;have EM:=hq.nQ;have Ae:=hq.nV;have hnW:=hq.nW;have HM:=Za hq.mq;have Us:=Za (lT.nil ((w.alloc (.cells #[.int .i64 (W:Int),.slice ga g.ah.length gc,gi,go] 33)).alloc (.cells #[.int .i64 (V:Int),.slice qa q.ah.length qc,qi,qo] 33)) w.heap.size);clear hb1 hG hQ hq;go_enter Tryz.func55,Tryz.ntmps55;by_cases c1:12<q.ah.length
 ·have HL:=Za (show o8 g q=[]from ZE c1);have c1i:(12:Int)<(q.ah.length:Int):=by omega
  go_wp2;go_ret;exact⟨_,rfl,by rw[HL.out];exact Us.out,hb2⟩
 have c1i:¬(12:Int)<(q.ah.length:Int):=by omega
 have c1j:(q.ah.length:Int)<=12:=by omega
 by_cases c2:g.ah.length<q.ah.length
 ·have HL:=Za (show o8 g q=[]by unfold o8;rw[ZH c1,ajZ HM.out (.inl c2)];rfl);go_wp2;go_ret;exact⟨_,rfl,by rw[HL.out];exact Us.out,hb2⟩
 by_cases c3:W<V
 ·have HL:=Za (show o8 g q=[]by unfold o8;rw[ZH c1,ajZ HM.out (.inr c3)];rfl);go_wp2;go_ret;exact⟨_,rfl,by rw[HL.out];exact Us.out,hb2⟩
 have HL:=Za (show o8 g q=cut (xU g q)from ZH c1);go_wp2_with fail
 generalize((w.alloc (.cells #[.int .i64 (W:Int),.slice ga g.ah.length gc,gi,go] 33)).alloc (.cells #[.int .i64 (V:Int),.slice qa q.ah.length qc,qi,qo] 33))=u1 at *;obtain⟨G0,-,gz⟩:=kG.cell;have g1:=G0 1;have g0:=G0 0;obtain⟨Q0,-,qz⟩:=kQ.cell;have q1:=Q0 1;have q0:=Q0 0;simp only[Ze,Zc,Zd]at g0 g1 q0 q1;clear G0 Q0;have fH:∀{w':World},aC dD u1.drew w'->Below u1.heap.size u1 w':=λh=>(Zl u1.heap.size u1).drew.trans (h.toBelow.mono (by simp));refine h_ (C:=aC (dD) _) 8 [0,1,2,3,4,5,6,7,8,9] (by kernel_rfl) (by kernel_rfl) (aC.aJ _ _) (aC.refl _ _) ?_;iterate 2 (apply dh rfl rfl rfl;(focus intro u hc' hf';go_simp<;>rfl);intro K hK;go_simp;apply hK;clear hK K)
 refine akc rfl rfl rfl (aC.refl _ _) _ _ rfl V rfl rfl (by omega) ?_;intro K hK b1 w3 hw3 hb3 F5 jH hr1;go_simp;refine hK _ _ _ ?_;clear hK K;iterate 3 (apply dh rfl rfl rfl;(focus intro u hc' hf';go_simp<;>rfl);intro K hK;go_simp;apply hK;clear hK K)
 refine akc rfl rfl rfl hw3 _ _ rfl q.ah.length rfl rfl (by omega) ?_;intro K hK b2 w4 hw4 hb4 J6 jI hr2;go_simp;refine hK _ _ _ ?_;clear hK K;iterate 1 (apply dh rfl rfl rfl;(focus intro u hc' hf';go_simp<;>rfl);intro K hK;go_simp;apply hK;clear hK K)
 refine ku rfl rfl rfl (aC.aJ _ _) hw4 (λb=>.pointer (some ⟨b,0,none⟩)) (λK hK=>?_);apply Zq;refine⟨λw' hw'=>?_,λbb w5 gu bH aW hNb d_=>?_⟩
 ·go_simp;rfl
 go_simp;refine hK _ _ _ ?_;clear hK K;refine jd rfl rfl rfl (aC.aJ _ _) gu (λK hK=>?_);intro w6 jk aV;obtain⟨n0,n1,n2⟩:=made_cell ((aV.block bb (made_cell aW).2.2).trans aW);refine⟨(w6.setCell ⟨bb,0,none⟩ (.slice (some ⟨b1,0,none⟩) V V)).setCell ⟨bb,1,none⟩ (.slice (some ⟨b2,0,none⟩) q.ah.length q.ah.length),?_,⟨bF (bF jk (.inl hNb) _) (.inl hNb) _,by simp,λj _ hj _=>by rw[Zm _ _ _ _ (λh=>hj (by simp[h])),Zm _ _ _ _ (λh=>hj (by simp[h]))]⟩,?_⟩
 ·go_simp
 go_simp;refine hK _ _ _ ?_;clear hK K;refine dR ?_;have hst:Ur V q.ah.length w ((w6.setCell ⟨bb,0,none⟩ (.slice (some ⟨b1,0,none⟩) V V)).setCell ⟨bb,1,none⟩ (.slice (some ⟨b2,0,none⟩) q.ah.length q.ah.length)) #[.int .i64 (W:Int),.slice ga g.ah.length gc,gi,go] #[.int .i64 (V:Int),.slice qa q.ah.length qc,qi,qo] bb b1 b2 (List.replicate V 0) (List.replicate q.ah.length 0):=by
  have h0:Bk w6 bb 129 _:=(aV.block bb (made_cell aW).2.2).trans aW;have Az:=((hr1.keep hb4).keep bH).keep aV;have JL:=(hr2.keep bH).keep aV;have eY:=fH jk;have wu:u1.heap.size<=bb:=by simpa using hNb
  have awf:u1.heap.size<=b1:=by simpa using F5
  have acn:u1.heap.size<=b2:=by simpa using J6
  have hs1:=(Zh hr1 b1 rfl).2;simp only[Zo]at Az JL;have e1:=cO Az h0 (by decide);have e2:=cO JL h0 (by decide);have k1:=eP (eP Az ⟨bb,0,none⟩ (.slice (some ⟨b1,0,none⟩) V V) e1) ⟨bb,1,none⟩ (.slice (some ⟨b2,0,none⟩) q.ah.length q.ah.length) e1;have k2:=eP (eP JL ⟨bb,0,none⟩ (.slice (some ⟨b1,0,none⟩) V V) e2) ⟨bb,1,none⟩ (.slice (some ⟨b2,0,none⟩) q.ah.length q.ah.length) e2;refine⟨((kG.keep eY).other ⟨bb,0,none⟩ _ (by simp only;omega)).other ⟨bb,1,none⟩ _ (by simp only;omega),((kQ.keep eY).other ⟨bb,0,none⟩ _ (by simp only;omega)).other ⟨bb,1,none⟩ _ (by simp only;omega),by simpa using(h0.set 0 (.slice (some ⟨b1,0,none⟩) V V)).set 1 (.slice (some ⟨b2,0,none⟩) q.ah.length q.ah.length),Rw.mono (by omega) k1,Rw.mono (by omega) k2,⟨by omega,by omega,by omega⟩,⟨λe=>?_,λe=>e1 (by rw[e];rfl),λe=>e2 (by rw[e];rfl)⟩,((hb2.trans (eY.mono (by omega))).setCell (by simp only;omega) _).setCell (by simp only;omega) _⟩;exact jI e.symm
 generalize(w6.setCell ⟨bb,0,none⟩ (.slice (some ⟨b1,0,none⟩) V V)).setCell ⟨bb,1,none⟩ (.slice (some ⟨b2,0,none⟩) q.ah.length q.ah.length)=w7 at *;clear g0 g1 gz q0 q1 qz kG kQ hb2 hz2 fH hw3 hb3 F5 jH hr1 hw4 hb4 J6 jI hr2 gu bH aW hNb d_ jk aV n0 n1 n2 Us;obtain⟨G0,-,gz⟩:=hst.kg.cell;have g1:=G0 1;have g2:=G0 2;have g3:=G0 3;have g0:=G0 0;obtain⟨Q0,-,qz⟩:=hst.kq.cell;have q1:=Q0 1;have q2:=Q0 2;have q3:=Q0 3;have q0:=Q0 0;obtain⟨M0,-,mz⟩:=hst.km.cell;have m1:=M0 1;have m0:=M0 0;simp only[Ze,Zc,Zd]at g0 g1 g2 g3 q0 q1 q2 q3 m0 m1;clear G0 Q0 M0;go_wp2_with fail
 clear g0 g1 g2 g3 gz q0 q1 q2 q3 qz m0 m1 mz;go_loopw [39] (λiv wr=>∃k:Nat,k<=V/\iv=.int .i64 k/\Ur V q.ah.length w wr #[.int .i64 (W:Int),.slice ga g.ah.length gc,gi,go] #[.int .i64 (V:Int),.slice qa q.ah.length qc,qi,qo] bb b1 b2 ((List.replicate V (-1:Int)).take k++(List.replicate V (0:Int)).drop k) (List.replicate q.ah.length 0)) (λiv _=>V-(intOf iv).toNat)
 case atStart=>exact⟨0,Zw _,rfl,by simpa using hst⟩
 case round =>
  clear hst;obtain⟨k,hk,rfl,hst⟩:=hrel;by_cases hlt:k<V
  ·obtain⟨G0,-,gz⟩:=hst.kg.cell;have g1:=G0 1;have g2:=G0 2;have g3:=G0 3;have g0:=G0 0;obtain⟨Q0,-,qz⟩:=hst.kq.cell;have q1:=Q0 1;have q2:=Q0 2;have q3:=Q0 3;have q0:=Q0 0;obtain⟨M0,-,mz⟩:=hst.km.cell;have m1:=M0 1;have m0:=M0 0;simp only[Ze,Zc,Zd]at g0 g1 g2 g3 q0 q1 q2 q3 m0 m1;clear G0 Q0 M0;obtain⟨⟨d0,f0⟩,cZ⟩:=hst.rw.fill (by simp) (by simp) hlt;rw[Z9]at cZ;rw[Z9]at d0;obtain⟨x1,x2,x3⟩:=hst.n1;obtain⟨y1,y2,y3⟩:=hst.n2;have dK:Ur V q.ah.length w (wr.setCell ⟨b1,k,none⟩ (.int .i64 (-1))) #[.int .i64 (W:Int),.slice ga g.ah.length gc,gi,go] #[.int .i64 (V:Int),.slice qa q.ah.length qc,qi,qo] bb b1 b2 ((List.replicate V (-1:Int)).take (k+1)++(List.replicate V (0:Int)).drop (k+1)) (List.replicate q.ah.length 0):=⟨hst.kg.other _ _ (by simp only;omega),hst.kq.other _ _ (by simp only;omega),hst.km.other _ _ (by simp only;exact λe=>y2 e.symm),cZ,eP hst.re _ _ (by simp only[Value.ownBlock];exact λe=>y1 (Zy e).symm),hst.n1,hst.n2,hst.bel.setCell (by simp only;omega) _⟩
   have HST:=Za dK;clear hst dK cZ;go_wp2;go_roundw
   case rel=>exact⟨k+1,by omega,by go_num,HST.out⟩
   case measure=>simp[intOf];omega
  ·obtain rfl:k=V:=by omega
   have abR:Ur k q.ah.length w wr #[.int .i64 (W:Int),.slice ga g.ah.length gc,gi,go] #[.int .i64 (k:Int),.slice qa q.ah.length qc,qi,qo] bb b1 b2 (List.replicate k (-1)) (List.replicate q.ah.length 0):=by simpa using hst
   generalize wr=wo at *;clear hst;have hst:=abR;clear abR;obtain⟨G0,-,gz⟩:=hst.kg.cell;have g1:=G0 1;have g2:=G0 2;have g3:=G0 3;have g0:=G0 0;obtain⟨Q0,-,qz⟩:=hst.kq.cell;have q1:=Q0 1;have q2:=Q0 2;have q3:=Q0 3;have q0:=Q0 0;obtain⟨M0,-,mz⟩:=hst.km.cell;have m1:=M0 1;have m0:=M0 0;simp only[Ze,Zc,Zd]at g0 g1 g2 g3 q0 q1 q2 q3 m0 m1;clear G0 Q0 M0;go_wp2_with fail
   clear g0 g1 g2 g3 gz q0 q1 q2 q3 qz m0 m1 mz;go_loopw [50] (λiv wr=>∃j:Nat,j<=q.ah.length/\iv=.int .i64 j/\Ur k q.ah.length w wr #[.int .i64 (W:Int),.slice ga g.ah.length gc,gi,go] #[.int .i64 (k:Int),.slice qa q.ah.length qc,qi,qo] bb b1 b2 (List.replicate k (-1)) ((List.replicate q.ah.length (-1:Int)).take j++(List.replicate q.ah.length (0:Int)).drop j)) (λiv _=>q.ah.length-(intOf iv).toNat)
   case atStart=>exact⟨0,Zw _,rfl,by simpa using hst⟩
   case round =>
    clear hst;obtain⟨j,hj,rfl,hst⟩:=hrel;by_cases zL:j<q.ah.length
    ·obtain⟨G0,-,gz⟩:=hst.kg.cell;have g1:=G0 1;have g2:=G0 2;have g3:=G0 3;have g0:=G0 0;obtain⟨Q0,-,qz⟩:=hst.kq.cell;have q1:=Q0 1;have q2:=Q0 2;have q3:=Q0 3;have q0:=Q0 0;obtain⟨M0,-,mz⟩:=hst.km.cell;have m1:=M0 1;have m0:=M0 0;simp only[Ze,Zc,Zd]at g0 g1 g2 g3 q0 q1 q2 q3 m0 m1;clear G0 Q0 M0;obtain⟨⟨d0,f0⟩,cZ⟩:=hst.re.fill (by simp) (by simp) zL;rw[Z9]at cZ;rw[Z9]at d0;obtain⟨x1,x2,x3⟩:=hst.n1;obtain⟨y1,y2,y3⟩:=hst.n2;have dK:Ur k q.ah.length w (wr.setCell ⟨b2,j,none⟩ (.int .i64 (-1))) #[.int .i64 (W:Int),.slice ga g.ah.length gc,gi,go] #[.int .i64 (k:Int),.slice qa q.ah.length qc,qi,qo] bb b1 b2 (List.replicate k (-1)) ((List.replicate q.ah.length (-1:Int)).take (j+1)++(List.replicate q.ah.length (0:Int)).drop (j+1)):=⟨hst.kg.other _ _ (by simp only;omega),hst.kq.other _ _ (by simp only;omega),hst.km.other _ _ (by simp only;exact λe=>y3 e.symm),eP hst.rw _ _ (by simp only[Value.ownBlock];exact λe=>y1 (Zy e)),cZ,hst.n1,hst.n2,hst.bel.setCell (by simp only;omega) _⟩
     have HST:=Za dK;clear hst dK cZ;go_wp2;go_roundw
     case rel=>exact⟨j+1,by omega,by go_num,HST.out⟩
     case measure=>simp[intOf];omega
    ·obtain rfl:j=q.ah.length:=by omega
     have hr2:Rw wr 0 (.slice (some ⟨b2,0,none⟩) q.ah.length q.ah.length) (List.replicate q.ah.length (-1)):=(hst.re.mono (Zw _)).full (by simp) (by simp);have HC:=Za (HS.out wr hst.bel _ _ _ _ (hst.rw.mono (Zw _)) hr2);have HB:=Za hst.bel;obtain⟨G0,-,gz⟩:=hst.kg.cell;have g1:=G0 1;have g2:=G0 2;have g3:=G0 3;have g0:=G0 0;obtain⟨Q0,-,qz⟩:=hst.kq.cell;have q1:=Q0 1;have q2:=Q0 2;have q3:=Q0 3;have q0:=Q0 0;obtain⟨M0,-,mz⟩:=hst.km.cell;have m1:=M0 1;have m0:=M0 0;simp only[Ze,Zc,Zd]at g0 g1 g2 g3 q0 q1 q2 q3 m0 m1;clear G0 Q0 M0;clear hst hr2;go_wp2_with fail
     refine HC.out.mono ?_;rintro e w8⟨v,rfl,hm,hx,ho⟩;have hB:=HB.out.trans (aas hx HB.out.size (λk hk=>by simp[Value.ownBlock]at hk));have HD:Hid (MaP (o8 g q) w (.returned v) w8):=Za ⟨v,rfl,by rw[HL.out];rw[YW,arA HM.out]at hm;exact hm,hB⟩;clear g0 g1 g2 g3 gz q0 q1 q2 q3 qz m0 m1 mz;clear hm hx ho hB;go_wp2;go_ret;exact HD.out
end Go.Proofs.YtkhpobekconobaaGreat
