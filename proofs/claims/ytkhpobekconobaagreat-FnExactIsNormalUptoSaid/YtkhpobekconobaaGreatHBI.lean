import Derived.Test.YtkhpobekconobaaGreatHBH
set_option linter.all false
set_option maxRecDepth 100000
set_option maxHeartbeats 0
namespace Go.Proofs.YtkhpobekconobaaGreat
open Go.RowKit
structure Oo (w wr:World) (lF lH Q9:Array Value) (bq bp:Nat) (vm qe qi qo pe pi po ov:Value) (ml:List aX) (q p:aF) (ms:List mD):Prop where
 kg:Bk wr w.heap.size 33 lF
 kq:Bk wr bq 33 lH
 kp:Bk wr bp 33 Q9
 hm:lT wr w.heap.size vm ml
 gq:dB wr w.heap.size qe qi qo q
 gp:dB wr w.heap.size pe pi po p
 mv:nC wr w.heap.size ov ms
 bel:Below w.heap.size w wr
theorem Oo.keep {w wr w':World} {lF lH Q9:Array Value} {bq bp:Nat} {vm qe qi qo pe pi po ov:Value} {ml:List aX} {q p:aF} {ms:List mD} (h:Oo w wr lF lH Q9 bq bp vm qe qi qo pe pi po ov ml q p ms) (hb:Below wr.heap.size wr w'):Oo w w' lF lH Q9 bq bp vm qe qi qo pe pi po ov ml q p ms :=
 ⟨h.kg.keep hb,h.kq.keep hb,h.kp.keep hb,h.hm.keep hb,h.gq.keep hb,h.gp.keep hb,h.mv.keep hb,h.bel.trans (hb.mono h.bel.size)⟩
theorem Oo.app {w wr w':World} {lF lH Q9:Array Value} {bq bp:Nat} {vm qe qi qo pe pi po ov ov':Value} {ml:List aX} {q p:aF} {ms ms':List mD} (h:Oo w wr lF lH Q9 bq bp vm qe qi qo pe pi po ov ml q p ms) (hg:wr.grownBy w' ov.ownBlock) (hr:nC w' w.heap.size ov' ms'):Oo w w' lF lH Q9 bq bp vm qe qi qo pe pi po ov' ml q p ms' :=
 ⟨h.kg.grown hg (h.mv.ne h.kg (by decide)),h.kq.grown hg (h.mv.ne h.kq (by decide)),h.kp.grown hg (h.mv.ne h.kp (by decide)),h.mv.asE hg h.hm,h.mv.akU hg h.gq,h.mv.akU hg h.gp,hr,h.bel.grown hg h.bel.size (λj hj=>(h.mv.lt j hj).1)⟩
theorem atj (g:aF) (rs:List dP) (W:Nat) (hW:g.aB=W) (hg:aY g=true) (hn:Bj g) (zZ:∀r∈rs,Oe r) (hl:rs.length<=20) (vg gi go vr:Value) (w:World) (hG:dM w vg gi go g) (hR:qQ w vr rs) :
  Calls Tryz.prog 31 #[.agg #[.int .i64 (W:Int),vg,gi,go],vr] w (adk (o_ g rs rs.length) w):=by
 obtain⟨⟨ga,gc,rfl⟩,⟨ia,ic,rfl⟩,oa,oc,rfl⟩:=hG.slices;obtain⟨ra,rc,rfl,hrc,Hy⟩:=hR;have hB:=aH w (.cells #[.int .i64 (W:Int),.slice ga g.ah.length gc,.slice ia g.aj.length ic,.slice oa g.ay.length oc] 33);have kG:=Bk.new w 33 #[.int .i64 (W:Int),.slice ga g.ah.length gc,.slice ia g.aj.length ic,.slice oa g.ay.length oc];have HG:=Za hG;have jf:=Za (Zb hW (Zb hg (Zb hn zZ)));have HAT:=Za Hy;clear hG Hy hW hg hn zZ;go_enter Tryz.func31,Tryz.ntmps31;go_wp2_with fail
 generalize(w.alloc (.cells #[.int .i64 (W:Int),.slice ga g.ah.length gc,.slice ia g.aj.length ic,.slice oa g.ay.length oc] 33))=u0 at *;go_loopw [5,15] (λov i wr=>∃k:Nat,k<=rs.length/\i=.int .i64 k/\Bk wr w.heap.size 33 #[.int .i64 (W:Int),.slice ga g.ah.length gc,.slice ia g.aj.length ic,.slice oa g.ay.length oc]/\nC wr w.heap.size ov (o_ g rs k)/\Below w.heap.size w wr) (λ_ i _=>rs.length-(intOf i).toNat)
 case atStart=>exact⟨0,Zw _,rfl,kG,nC.nil _ _,hB⟩
 case round =>
 clear kG hB;obtain⟨k,hk,rfl,kG,Hz,hB⟩:=hrel;by_cases hlt:k<rs.length
 ·obtain⟨b,o,rfl,hir,sO⟩:=HAT.out k hlt;have hrg:=jf.out.2.2.2 _ (Zp hlt);have xu:=af0 g rs k;have hgd:rs.getD k abo=rs[k]:=by rw[Zg,Zi hlt];rfl
  unfold UJ at xu;rw[hgd]at xu;generalize rs[k]=r at *;obtain⟨z1,vl,U4,z2,z3,lD,xI⟩:=sO;obtain⟨al,cl,rfl⟩:=lD.slice;obtain⟨ar,cr,rfl⟩:=xI.slice;have Qj:=hrg.sd;have y1:=aK hB z1;have y2:=aK hB z2;have y3:=aK hB z3;have yz:=cell_lt y1;have IX:=Za xu;have xJ:=Za Qj;have Bo:=Za hrg.rb;obtain⟨x,_,_,Kz,-⟩:=hrg;have NZ:=Za (λ(u:World) (hu:Below w.heap.size w u)=>akW r x x _ _ u Kz (lD.keep hu) (xI.keep hu));have aQ:=aH wr (.cells (#[.string r.name,.slice al r.left.length cl,.slice ar r.right.length cr]) 66);have gG:=kG.keep aQ;have aS:=hB.trans (aQ.mono hB.size);have abv:=Hz.keep aQ;clear z1 z2 z3 lD xI hgd xu Qj Kz;go_wp2_with fail
  generalize(wr.alloc (.cells (#[.string r.name,.slice al r.left.length cl,.slice ar r.right.length cr]) 66))=u1 at *;refine(NZ.out u1 aS).mono ?_;rintro e u2⟨q,p,a1,c1,a2,c2,a3,c3,b1,d1,b2,d2,b3,d3,rfl,hgq,hgp,U5,hb2⟩;obtain⟨e1,e2⟩:=U5 Bo.out;have hq:q=uh r:=by have:=xJ.out.pl;rw[this]at e1;exact(Zy e1).symm
  have hp:p=xE r:=by have:=xJ.out.pr;rw[this]at e2;exact(Zy e2).symm
  have HQP:=Za (Zb hq hp);obtain⟨⟨V,hV,hVn⟩,-⟩:=eF xJ.out.gl;obtain⟨⟨R,hR,UK⟩,-⟩:=eF xJ.out.gr;rw[<-hq]at hV;rw[<-hp]at hR;have HV:=Za (Zb hV hR);rw[hV,hR,Bo.out];have HMA:=Za (λ(u:World) (v2 v3:Value) (hu:Below w.heap.size w u) (h:dM u (.slice a1 q.ah.length c1) v2 v3 q)=>(show Calls Tryz.prog 55 #[.agg #[.int .i64 (W:Int),.slice ga g.ah.length gc,.slice ia g.aj.length ic,.slice oa g.ay.length oc],.agg #[.int .i64 (V:Int),.slice a1 q.ah.length c1,v2,v3]] u (MaP (o8 g q) u)from
   arF g q W V (by rw[hq];exact adh jf.out.2.1 jf.out.2.2.1 xJ.out.gl xJ.out.ml.nd jf.out.1 (by rw[<-hq];exact hV)) _ _ _ _ _ _ u (HG.out.keep hu).ed h.ed))
  have Jq:=Za (λ(m:aX) (hm:m∈o8 g q) (u:World) (v4 v5 v6 v7 v8 v9 vx vy:Value) (hu:Below w.heap.size w u) (h1:dM u v4 v5 v6 q) (h2:dM u v7 v8 v9 p) (h3:aU u vx m.aB) (h4:aU u vy m.ah)=>(show Calls Tryz.prog 57 #[.agg #[.int .i64 (W:Int),.slice ga g.ah.length gc,.slice ia g.aj.length ic,.slice oa g.ay.length oc],.agg #[.int .i64 (V:Int),v4,v5,v6],.agg #[.int .i64 (R:Int),v7,v8,v9],.agg #[vx,vy]] u (ale (uK g q p m) u)from
   atb g q p m W V R (by rw[hq,hp];exact adi jf.out.2.1 jf.out.2.2.1 xJ.out (by rw[<-hq];exact hm)) jf.out.1 hV hR _ _ _ _ _ _ _ _ _ _ _ u (HG.out.keep hu) h1 h2 h3 h4))
  have BD:=Za (λ(m:aX) (hm:m∈o8 g q)=>(show nJ (uK g q p m)from by
   have h:=acL (adi jf.out.2.1 jf.out.2.2.1 xJ.out (m:=m) (by rw[<-hq];exact hm));rw[<-hq,<-hp]at h;have hl:=aaJ (adi jf.out.2.1 jf.out.2.2.1 xJ.out (m:=m) (by rw[<-hq];exact hm));rw[<-hq,<-hp]at hl;exact akS h hl.2.1 hl.2.2))
  have agf:=Za (show o_ g rs (k+1)=o_ g rs k++o9 g r k (o8 g q)from by rw[hq];exact IX.out);have C_:=Za (show ∀ml m,o9 g r k (ml++[m])=o9 g r k ml++if aY (uK g q p m)=true then[⟨k,m⟩]else[]from λml m=>by rw[akM];unfold okM;rw[<-hq,<-hp]);have sN:=akP g q;clear U5 e1 e2 hq hp hV hR NZ IX xJ Bo;obtain⟨oa',oc',rfl⟩:=Hz.slice;have aZ:=aS.trans (hb2.mono aS.size);have dU:=aH u2 (.cells #[.int .i64 (V:Int),.slice a1 q.ah.length c1,.slice a2 q.aj.length c2,.slice a3 q.ay.length c3] 33);have dV:=aH (u2.alloc (.cells #[.int .i64 (V:Int),.slice a1 q.ah.length c1,.slice a2 q.aj.length c2,.slice a3 q.ay.length c3] 33)) (.cells #[.int .i64 (R:Int),.slice b1 p.ah.length d1,.slice b2 p.aj.length d2,.slice b3 p.ay.length d3] 33);have hA:=dU.trans (dV.mono dU.size);have kQ:=(Bk.new u2 33 #[.int .i64 (V:Int),.slice a1 q.ah.length c1,.slice a2 q.aj.length c2,.slice a3 q.ay.length c3]).keep dV;have kP:=Bk.new (u2.alloc (.cells #[.int .i64 (V:Int),.slice a1 q.ah.length c1,.slice a2 q.aj.length c2,.slice a3 q.ay.length c3] 33)) 33 #[.int .i64 (R:Int),.slice b1 p.ah.length d1,.slice b2 p.aj.length d2,.slice b3 p.ay.length d3];simp only[Zn]at kP;have DV:=(gG.keep hb2).keep hA;have alB:=(abv.keep hb2).keep hA;have dZ:=aZ.trans (hA.mono aZ.size);have agh:=(hgq.mono aS.size).keep hA;have alC:=(hgp.mono aS.size).keep hA;have gc4:=DV.cell.1;have gc0:=gc4 0;have gc1:=gc4 1;have gc2:=gc4 2;have gc3:=gc4 3;simp only[Ze,Zc,Zd]at gc0 gc1 gc2 gc3;have qg:=gG.keep hb2;have g20:=qg.cell.1 0;have g21:=qg.cell.1 1;have g22:=qg.cell.1 2;have g23:=qg.cell.1 3;have g2z:=qg.lt;have atl:w.heap.size<u2.heap.size+1:=by omega
  simp only[Ze,Zc,Zd]at g20 g21 g22 g23;clear gc4 gc0 gc1 gc2 gc3 dU dV hA hgq hgp qg abv Hz kG gG hB;go_wp2_with fail
  clear g20 g21 g22 g23 g2z atl;generalize PE:u2.heap.size=bq at *;generalize hbp:bq+1=bp at *;have U5:¬bq=bp:=by omega
  generalize((u2.alloc (.cells #[.int .i64 (V:Int),.slice a1 q.ah.length c1,.slice a2 q.aj.length c2,.slice a3 q.ay.length c3] 33)).alloc (.cells #[.int .i64 (R:Int),.slice b1 p.ah.length d1,.slice b2 p.aj.length d2,.slice b3 p.ay.length d3] 33))=u4 at *;have HBQ:=Za (Zb PE hbp);clear PE hbp hb2 aZ aS aQ;refine(HMA.out u4 _ _ dZ agh.at).mono ?_;rintro e u5'⟨vm,rfl,qE,bH⟩;obtain⟨ma,mc,rfl⟩:=qE.slice;have hst:Oo w u5' #[.int .i64 (W:Int),.slice ga g.ah.length gc,.slice ia g.aj.length ic,.slice oa g.ay.length oc] #[.int .i64 (V:Int),.slice a1 q.ah.length c1,.slice a2 q.aj.length c2,.slice a3 q.ay.length c3] #[.int .i64 (R:Int),.slice b1 p.ah.length d1,.slice b2 p.aj.length d2,.slice b3 p.ay.length d3] bq bp _ _ _ _ _ _ _ _ (o8 g q) q p (o_ g rs k++o9 g r k ((o8 g q).take 0)):=⟨DV.keep bH,kQ.keep bH,kP.keep bH,qE.mono dZ.size,agh.keep bH,alC.keep bH,by rw[Y5,show o9 g r k []=[]from rfl,ZZ];exact alB.keep bH,dZ.trans (bH.mono dZ.size)⟩
  clear DV kQ kP qE agh alC alB dZ bH;have HST:=Za hst;clear hst;go_wp2_with fail
  generalize lu:(o8 g q).length=nm at *;have QD:=Za lu;generalize hML:o8 g q=ML at *;have LH:=Za hML;clear lu hML;go_loopw [5,30] (λov i wr=>∃j:Nat,j<=nm/\i=.int .i64 j/\Oo w wr #[.int .i64 (W:Int),.slice ga g.ah.length gc,.slice ia g.aj.length ic,.slice oa g.ay.length oc] #[.int .i64 (V:Int),.slice a1 q.ah.length c1,.slice a2 q.aj.length c2,.slice a3 q.ay.length c3] #[.int .i64 (R:Int),.slice b1 p.ah.length d1,.slice b2 p.aj.length d2,.slice b3 p.ay.length d3] bq bp (.slice ma nm mc) (.slice a1 q.ah.length c1) (.slice a2 q.aj.length c2) (.slice a3 q.ay.length c3) (.slice b1 p.ah.length d1) (.slice b2 p.aj.length d2) (.slice b3 p.ay.length d3) ov ML q p (o_ g rs k++o9 g r k (ML.take j))) (λ_ i _=>nm-(intOf i).toNat)
  case atStart=>exact⟨0,Zw _,rfl,HST.out⟩
  case round =>
  clear HST;obtain⟨j,hj,rfl,hst⟩:=hrel;by_cases zL:j<nm
  ·have U6:j<ML.length:=by have:=QD.out;omega
   obtain⟨_,_,OY,hsc,hrd⟩:=hst.hm.read;obtain⟨gm,om,UO,hjm,vw,ve,e0,e1,jh,sQ⟩:=hrd j U6;simp only[Zx]at OY;obtain⟨rfl,-,rfl⟩:=OY;subst UO;obtain⟨xa,xc,rfl⟩:=jh.slice;obtain⟨ya,yc,rfl⟩:=sQ.slice;have k_:ML.take (j+1)=ML.take j++[ML[j]]:=Zv U6;have oI:ML[j]∈ML:=Zp U6;generalize ML[j]=m at *;have Bq:=Za (Zb k_ oI);have ez:=cell_lt e0;have hA:=aH wr (.cells #[.slice xa m.aB.length xc,.slice ya m.ah.length yc] 77);have dS:=hst.keep hA;have Jc:=jh.keep hA;have Q_:=sQ.keep hA;have kM:=Bk.new wr 77 #[.slice xa m.aB.length xc,.slice ya m.ah.length yc];have HX:=Za (show wr.heap.size<(wr.alloc (.cells #[.slice xa m.aB.length xc,.slice ya m.ah.length yc] 77)).heap.size by simp);have G0:=hst.kg.cell.1;have Q0:=hst.kq.cell.1;have P0:=hst.kp.cell.1;have g0:=G0 0;have g1:=G0 1;have g2:=G0 2;have g3:=G0 3;have q0:=Q0 0;have q1:=Q0 1;have q2:=Q0 2;have q3:=Q0 3;have p0:=P0 0;have p1:=P0 1;have p2:=P0 2;have p3:=P0 3;have gz:=hst.kg.lt;have qz:=hst.kq.lt;have pz:=hst.kp.lt;simp only[Ze,Zc,Zd]at g0 g1 g2 g3 q0 q1 q2 q3 p0 p1 p2 p3;clear G0 Q0 P0 k_ oI hjm hrd hsc hst jh sQ;go_wp2_with fail
   clear g0 g1 g2 g3 q0 q1 q2 q3 p0 p1 p2 p3 gz qz pz e0 e1 ez hA;generalize(wr.alloc (.cells #[.slice xa m.aB.length xc,.slice ya m.ah.length yc] 77))=u6 at *;generalize wr.heap.size=bm at *;refine(Jq.out m Bq.out.2 u6 _ _ _ _ _ _ _ _ dS.bel dS.gq.at dS.gp.at Jc.at Q_.at).mono ?_;rintro e u7⟨s1,t1,s2,t2,s3,t3,v1,v2,v3,v4,n1,y1',n2,y2',n3,y3',n4,y4',rfl,hgr,dA⟩;have alD:=BD.out m Bq.out.2;have jS:=C_.out (ML.take j) m;rw[<-Bq.out.1]at jS;have HVA:=Za (aeA _ _ _ _ u7 hgr.at alD);generalize uK g q p m=GG at *;have Ee:=Za jS;have pW:=dS.keep dA;have alE:=Jc.keep dA;have alF:=Q_.keep dA;have uO:=kM.keep dA;clear jS alD hgr dS Jc Q_ kM dA;have hfd:∀(w1:World),(Instr.field 100 (.agg #[.int .i64 GG.aB,.slice s1 GG.ah.length t1,.slice s2 GG.aj.length t2,.slice s3 GG.ay.length t3,.slice v1 n1 y1',.slice v2 n2 y2',.slice v3 n3 y3',.slice v4 n4 y4']) 0).run Tryz.prog w1=.ok (.agg #[.int .i64 GG.aB,.slice s1 GG.ah.length t1,.slice s2 GG.aj.length t2,.slice s3 GG.ay.length t3]) w1:=λ_=>by kernel_rfl
   go_wp2_with fail
   clear hfd;refine HVA.out.mono ?_;rintro e u8⟨rfl,bJ⟩;have qR:=pW.keep bJ;have Rf:=alE.keep bJ;have Rh:=alF.keep bJ;have Ai:=uO.keep bJ;have hlen:(o_ g rs k++o9 g r k (ML.take j)).length<=3000:=by
    have h1:=akN g rs k;have h2:=akO g r k (ML.take j);rw[Zk];rw[ZJ]at h2;omega
   have UN:=Za hlen;obtain⟨MS,Ri⟩:∃l,o_ g rs k++o9 g r k (ML.take j)=l:=⟨_,rfl⟩
   rw[Ri]at qR UN;have rY:=Za Ri;obtain⟨oa2,oc2,rfl⟩:=qR.mv.slice;clear pW alE alF uO bJ HVA hlen Ri;cases hc:aY GG with
   | false =>
    rw[hc]at Ee;have HE:=Za qR;have HF:=Za (show o9 g r k (ML.take (j+1))=o9 g r k (ML.take j)from Ee.out.trans (ZZ _));clear qR Rf Rh Ai Ee;go_wp2;go_roundw
    case rel=>exact⟨j+1,by omega,by go_num,by rw[HF.out,rY.out];exact HE.out⟩
    case measure=>simp[intOf];omega
   | true =>
    rw[hc]at Ee;have HF:=Za (show o_ g rs k++o9 g r k (ML.take (j+1))=MS++[⟨k,m⟩]from by rw[<-rY.out,Zz];exact congrArg _ Ee.out);have m0:=Ai.cell.1 0;have m1:=Ai.cell.1 1;have mz:=Ai.lt;simp only[Ze,Zc,Zd]at m0 m1;have Eb:=Za qR;have HR8:=Za (Zb Rf Rh);clear qR Rf Rh Ai Ee;go_wp2_with (at_builtin;refine Y7 ?_)
    refine Za ?_;have LQ:=aH u8 (.cells #[.int .i64 (k:Int),.bool false,.slice xa m.aB.length xc,.slice ya m.ah.length yc] 79);have yG:=Eb.out.keep LQ;have kN:=Bk.new u8 79 #[.int .i64 (k:Int),.bool false,.slice xa m.aB.length xc,.slice ya m.ah.length yc];refine asF rfl (.tmp 41) (.tmp 45) rfl w.heap.size (.slice oa2 MS.length oc2) MS rfl yG.mv u8.heap.size ⟨k,m⟩ _ _ rfl kN (HR8.out.1.keep LQ) (HR8.out.2.keep LQ) yG.bel.size (by have:=UN.out;omega) ?_;intro v10 w10 r1 r2 r3;have Rj:=yG.app r2 r1;rw[<-HF.out]at Rj;have HE:=Za Rj;clear LQ yG kN r1 r2 r3 Rj m0 m1 mz;go_wp2;go_roundw
    case rel=>exact⟨j+1,by omega,by go_num,HE.out⟩
    case measure=>simp[intOf];omega
  ·obtain rfl:nm=j:=by omega
   have hall:ML.take nm=ML:=ZX (by rw[QD.out];exact Zj _);rw[hall,<-agf.out]at hst;have HE:=Za hst;clear hall hst;go_wp2;go_roundw
   case rel=>exact⟨k+1,by omega,by go_num,HE.out.kg,HE.out.mv,HE.out.bel⟩
   case measure=>simp[intOf];omega
 ·obtain rfl:rs.length=k:=by omega
  have HE:=Za (Zb Hz hB);clear Hz hB;go_wp2;go_ret;exact⟨_,rfl,HE.out.1,HE.out.2⟩
theorem atm (ve vi vo:Value) (g:aF) (w:World) (hR:dM w ve vi vo g) (aP:nJ g) :
  Calls Tryz.prog 52 #[.agg #[.int .i64 g.aB,ve,vi,vo]] w (nH (aY g&&monoB g) w):=by
 obtain⟨⟨ae,ce,rfl⟩,⟨ai,ci,rfl⟩,ao,co,rfl⟩:=hR.slices;have hB:=aH w (.cells #[.int .i64 g.aB,.slice ae g.ah.length ce,.slice ai g.aj.length ci,.slice ao g.ay.length co] 33);have kG:=Bk.new w 33 #[.int .i64 g.aB,.slice ae g.ah.length ce,.slice ai g.aj.length ci,.slice ao g.ay.length co];have hz:(w.alloc (.cells #[.int .i64 g.aB,.slice ae g.ah.length ce,.slice ai g.aj.length ci,.slice ao g.ay.length co] 33)).heap.size=w.heap.size+1:=by simp
 have hG:=aeA _ _ _ g _ (hR.keep hB) aP;have hMM:=λ(u:World) (hb:Below w.heap.size w u) hg=>apU _ _ _ g u (hR.keep hb) aP hg;clear hR;cases hb:aY g with
 | false =>
  rw[hb]at hG;clear hb hMM;go_enter Tryz.func52,Tryz.ntmps52;go_wp2_with fail
  generalize(w.alloc (.cells #[.int .i64 g.aB,.slice ae g.ah.length ce,.slice ai g.aj.length ci,.slice ao g.ay.length co] 33))=u0 at *;refine hG.mono ?_;rintro r w2⟨rfl,hb2⟩;have qg:=kG.keep hb2;obtain⟨iG,-,zG⟩:=qg.cell;clear kG;go_wp2;go_ret;exact⟨rfl,hB.trans (hb2.mono hB.size)⟩
 | true =>
  rw[hb]at hG;have HM:=Za (λ(u:World) (hu:Below w.heap.size w u)=>hMM u hu hb);clear hb hMM;go_enter Tryz.func52,Tryz.ntmps52;go_wp2_with fail
  generalize(w.alloc (.cells #[.int .i64 g.aB,.slice ae g.ah.length ce,.slice ai g.aj.length ci,.slice ao g.ay.length co] 33))=u0 at *;refine hG.mono ?_;rintro r w2⟨rfl,hb2⟩;have qg:=kG.keep hb2;obtain⟨iG,-,zG⟩:=qg.cell;have aZ:=hB.trans (hb2.mono hB.size);clear kG;go_wp2_with fail
  refine(HM.out _ aZ).mono ?_;rintro r w3⟨rfl,hb3⟩;have HB3:=Za (aZ.trans (hb3.mono aZ.size));clear iG zG qg hb3 hb2 aZ hB;generalize monoB g=b at *;go_wp2;go_ret;exact⟨rfl,HB3.out⟩
def Aj (r:dP):Bool:=Hg r&&(decide ((uh r).ah.length<=12)&&decide ((xE r).ah.length<=12))
def Ak (rs:List dP):Bool:=rs.all Aj&&(decide ((rs.map dP.name).Nodup)&&inB rs.length 1 20)
theorem atn {r:dP} (hz:uj r) (h:Aj r=true):Oe r:=by
 unfold Aj Hg at h;simp only[Zu,ZF]at h;obtain⟨⟨h1,h2⟩,h3,h4⟩:=h;obtain⟨x,hx⟩:=Xj.1 h1;unfold Dp at h2;simp only[Zu,ZF]at h2;obtain⟨n1,n2,n3,n4⟩:=h2;have hy:bP (bI []) r.right=some x:=by rw[<-n2];exact hx
 rw[adg hx]at n3;rw[adg hy]at n4;obtain⟨p,hp⟩:=Xj.1 n3;obtain⟨q,hq⟩:=Xj.1 n4;have ep:uh r=p:=by unfold uh;rw[hp];rfl
 have eq:xE r=q:=by unfold xE;rw[hq];rfl
 exact⟨x,p,q,hz.k hx hy,n1,hp,hq,by rw[<-ep];exact h3,by rw[<-eq];exact h4⟩
theorem alG {rs:List dP} (hz:∀r∈rs,uj r) (h:Ak rs=true):(∀r∈rs,Oe r)/\1<=rs.length/\rs.length<=20:=by
 unfold Ak inB at h;simp only[Zu,ZF,Z7]at h;exact⟨λr hr=>atn (hz r hr) (h.1 r hr),by omega,by omega⟩
structure Ef (rs:List dP) (k:Nat):Prop where
 gd:∀i,(h:i<rs.length)->i<k->Aj rs[i]=true
 ne:∀i j,(hi:i<rs.length)->(hj:j<rs.length)->i<j->j<k->rs[i].name≠rs[j].name
theorem Ef.bad {rs:List dP} {k:Nat} (hk:k<rs.length) (h:Aj rs[k]=false):Ak rs=false:=by
 unfold Ak;have:rs.all Aj=false:=by
  rw[X8];exact⟨rs[k],Zp hk,by rw[h];exact XF⟩
 rw[this];rfl
theorem Ef.same {rs:List dP} {i j:Nat} (hi:i<rs.length) (hj:j<rs.length) (BM:i<j) (h:rs[i].name=rs[j].name):Ak rs=false:=by
 unfold Ak;have:decide ((rs.map dP.name).Nodup)=false:=by
  refine YH λhn=>?_;have:=Xr.1 hn i j (by simpa using hi) (by simpa using hj) BM;simp only[YN]at this;exact this h
 rw[this];simp
theorem Ef.all {rs:List dP} (h:Ef rs rs.length):Ak rs=inB rs.length 1 20:=by
 unfold Ak;have h1:rs.all Aj=true:=Z7.2 λr hr=>by
  obtain⟨i,hi,rfl⟩:=Yl.1 hr;exact h.gd i hi hi
 have h2:(rs.map dP.name).Nodup:=Xr.2 λi j hi hj BM=>by
  rw[ZG]at hi hj;simp only[YN];exact h.ne i j hi hj BM hj
 rw[h1,Yn h2];simp
theorem Ef.next {rs:List dP} {k:Nat} (h:Ef rs k) (hk:k<rs.length) (hg:Aj rs[k]=true) (hn:∀i,(hi:i<rs.length)->i<k->rs[i].name≠rs[k].name):Ef rs (k+1):=by
 refine⟨λi hi hik=>?_,λi j hi hj BM hjk=>?_⟩
 ·rcases Yj i k with h1|h1
  ·exact h.gd i hi h1
  ·obtain rfl:i=k:=by omega
   exact hg
 ·rcases Yj j k with h1|h1
  ·exact h.ne i j hi hj BM h1
  ·obtain rfl:j=k:=by omega
   exact hn i hi BM
theorem ato {a b:ByteArray} (h:¬a=b):(a.toList==b.toList)=false:=by
 rw[Ws,Ws,Yu];intro e;apply h;obtain⟨a⟩:=a;obtain⟨b⟩:=b;simp only at e;rw[VG.1 e]
theorem atp {a b:ByteArray} (h:a=b):(a.toList==b.toList)=true:=by rw[h,XY]
theorem atq (rs:List dP) (v:Value) (w:World) (hR:qQ w v rs) (hz:∀r∈rs,uj r) (hn:rs.length<=1048576) :
  Calls Tryz.prog 53 #[v] w (nH (Ak rs) w):=by
 obtain⟨ra,rc,rfl,hrc,Hy⟩:=hR;have HAT:=Za Hy;have HZ:=Za hz;clear Hy hz;go_enter Tryz.func53,Tryz.ntmps53;go_wp2;go_loopw [12] (λi wr=>∃k:Nat,k<=rs.length/\i=.int .i64 k/\Ef rs k/\Below w.heap.size w wr) (λi _=>rs.length-(intOf i).toNat)
 case atStart=>exact⟨0,Zw _,rfl,⟨λi hi h=>by omega,λi j hi hj h1 h2=>by omega⟩,Zl _ _⟩
 case round =>
 obtain⟨k,hk,rfl,Jr,hB⟩:=hrel;by_cases hlt:k<rs.length
 ·obtain⟨b,o,rfl,hir,sO⟩:=HAT.out k hlt;have Jo:=HZ.out _ (Zp hlt);have HBAD:=Za (Ef.bad (rs:=rs) (k:=k) hlt);have xB:=Za (Jr.next hlt);have PY:=Za (λi (hi:i<rs.length) (hik:i<k)=>Ef.same (rs:=rs) hi hlt hik);generalize rs[k]=r at *;obtain⟨z1,vl,U4,z2,z3,lD,xI⟩:=sO;obtain⟨al,cl,rfl⟩:=lD.slice;obtain⟨ar,cr,rfl⟩:=xI.slice;have y1:=aK hB z1;have y2:=aK hB z2;have y3:=aK hB z3;have yz:=cell_lt y1;have NZ:=Za (λ(u:World) (hu:Below w.heap.size w u)=>asO r _ _ u Jo (lD.keep hu) (xI.keep hu));have aQ:=aH wr (.cells (#[.string r.name,.slice al r.left.length cl,.slice ar r.right.length cr]) 66);have k4:=Bk.new wr 66 (#[.string r.name,.slice al r.left.length cl,.slice ar r.right.length cr]);have aS:=hB.trans (aQ.mono hB.size);have HGK:=Za Jr;clear z1 z2 z3 lD xI Jr;go_wp2_with fail
  generalize(wr.alloc (.cells (#[.string r.name,.slice al r.left.length cl,.slice ar r.right.length cr]) 66))=u1 at *;refine(NZ.out u1 aS).mono ?_;rintro e u2⟨q,p,a1,c1,a2,c2,a3,c3,b1,d1,b2,d2,b3,d3,rfl,U5,hb2⟩;have HQP:=Za U5;have aZ:=aS.trans (hb2.mono aS.size);have dU:=aH u2 (.cells #[.int .i64 q.aB,.slice a1 q.ah.length c1,.slice a2 q.aj.length c2,.slice a3 q.ay.length c3] 33);have dV:=aH (u2.alloc (.cells #[.int .i64 q.aB,.slice a1 q.ah.length c1,.slice a2 q.aj.length c2,.slice a3 q.ay.length c3] 33)) (.cells #[.int .i64 p.aB,.slice b1 p.ah.length d1,.slice b2 p.aj.length d2,.slice b3 p.ay.length d3] 33);have hA:=dU.trans (dV.mono dU.size);have dZ:=aZ.trans (hA.mono aZ.size);have k44:=(k4.keep hb2).keep hA;have HB4:=Za (Zb dZ k44);clear U5 dU dV hA dZ k44 k4 hb2 aZ aS aQ hB y1 y2 y3 yz;have hu4:¬u2.heap.size=u2.heap.size+1:=by omega
  cases hrt:Hg r with
  | false =>
   have HF:=Za (HBAD.out (by unfold Aj;rw[hrt];rfl));go_wp2;go_ret;exact⟨by rw[HF.out];rfl,HB4.out.1⟩
  | true =>
   obtain⟨e1,e2⟩:=HQP.out hrt;have hq:uh r=q:=by unfold uh;rw[e1];rfl
   have hp:xE r=p:=by unfold xE;rw[e2];rfl
   by_cases H9:q.ah.length<=12
   ·have adu:¬(12:Int)<(q.ah.length:Int):=by omega
    by_cases q_:p.ah.length<=12
    ·have agi:¬(12:Int)<(p.ah.length:Int):=by omega
     have HG:=Za (show Aj r=true from by unfold Aj;rw[hrt,hq,hp,Yn H9,Yn q_];rfl);have hs1:0<=(k:Int)/\(k:Int)<=(rc:Int):=by omega
     clear e1 e2 hq hp H9 q_ hrt;go_wp2_with fail
     generalize hu4:((u2.alloc (.cells #[.int .i64 q.aB,.slice a1 q.ah.length c1,.slice a2 q.aj.length c2,.slice a3 q.ay.length c3] 33)).alloc (.cells #[.int .i64 p.aB,.slice b1 p.ah.length d1,.slice b2 p.aj.length d2,.slice b3 p.ay.length d3] 33))=u4 at *;clear hu4;go_loopw [41] (λi wr2=>∃j:Nat,j<=k/\i=.int .i64 j/\(∀i',(hi:i'<rs.length)->i'<j->rs[i'].name≠r.name)/\Below u4.heap.size u4 wr2) (λi _=>k-(intOf i).toNat)
     case atStart=>exact⟨0,Zw _,rfl,λi' hi h=>by omega,Zl _ _⟩
     case round =>
     obtain⟨j,hj,rfl,FY,iV⟩:=hrel;have eY:=HB4.out.1.trans (iV.mono HB4.out.1.size);by_cases zL:j<k
     ·have hjr:j<rs.length:=by omega
      obtain⟨b',o',aW,atr,att⟩:=HAT.out j hjr;rw[ZQ,Xm]at aW;obtain⟨rfl,rfl,-⟩:=aW;have atu:=Za (PY.out j hjr zL);have HNN:=Za FY;have hst:∀(h:rs[j].name≠r.name),∀i',(hi:i'<rs.length)->i'<j+1->rs[i'].name≠r.name:=λh i' hi BM=>by
       rcases Yj i' j with h1|h1
       ·exact HNN.out i' hi h1
       ·obtain rfl:i'=j:=by omega
        exact h
      have HST:=Za hst;generalize rs[j]=r2 at *;obtain⟨z1,vl2,vr2,z2,z3,lD,xI⟩:=att;obtain⟨al2,cl2,rfl⟩:=lD.slice;obtain⟨ar2,cr2,rfl⟩:=xI.slice;have y1:=aK eY z1;have y2:=aK eY z2;have y3:=aK eY z3;have yz:=cell_lt y1;have k4:=(HB4.out.2.keep iV)
      have n0:=k4.cell.1 0;have nz:=k4.lt;simp only[Ze,Zc,Zd]at n0;have jZ:=aH wr (.cells (#[.string r2.name,.slice al2 r2.left.length cl2,.slice ar2 r2.right.length cr2]) 66);have Rk:=Za (Zb (iV.trans (jZ.mono iV.size)) (eY.trans (jZ.mono eY.size)));have hjc:(j:Int)<(k:Int):=by omega
      clear z1 z2 z3 lD xI hst FY k4 jZ eY iV atr;by_cases lu:r2.name=r.name
      ·have HF:=Za (atu.out lu);have hs:=atp lu;clear lu;go_wp2;go_ret;exact⟨by rw[HF.out];rfl,Rk.out.2⟩
      ·have HF:=Za (HST.out lu);have hs:=ato lu;clear lu;go_wp2;go_roundw
       case rel=>exact⟨j+1,by omega,by go_num,HF.out,Rk.out.1⟩
       case measure=>simp[intOf];omega
     ·obtain rfl:k=j:=by omega
      have HF:=Za (xB.out HG.out FY);have Rk:=Za eY;clear FY iV eY;go_wp2;go_roundw
      case rel=>exact⟨k+1,by omega,by go_num,HF.out,Rk.out⟩
      case measure=>simp[intOf];omega
    ·have agi:(12:Int)<(p.ah.length:Int):=by omega
     have HF:=Za (HBAD.out (by unfold Aj;rw[hp,YH q_];simp));have adu:¬(12:Int)<(q.ah.length:Int):=by omega
     clear e1 e2 hq hp H9 q_ hrt;go_wp2;go_ret;exact⟨by rw[HF.out];rfl,HB4.out.1⟩
   ·have adu:(12:Int)<(q.ah.length:Int):=by omega
    have HF:=Za (HBAD.out (by unfold Aj;rw[hq,YH H9];simp));clear e1 e2 hq hp H9 hrt;go_wp2;go_ret;exact⟨by rw[HF.out];rfl,HB4.out.1⟩
 ·obtain rfl:rs.length=k:=by omega
  have HF:=Za Jr.all;clear Jr hlt hk;go_wp2_with fail
  refine(sD _ _ _ _).mono ?_;rintro e w2⟨rfl,rfl⟩;rw[<-HF.out];go_wp2;go_ret;exact⟨rfl,hB⟩
def xK (g:aF) (rs:List dP):Bool:=(aY g&&monoB g)&&Ak rs
theorem alH {g:aF} (h:monoB g=true):Bj g:=by
 unfold monoB uU at h;simp only[Zu,ZF]at h;exact⟨h.1.2.2,h.2.2.2⟩
theorem atv (g:aF) (rs:List dP) (vg gi go v:Value) (w:World) (hG:dM w vg gi go g) (aP:nJ g) (hR:qQ w v rs) (hz:∀r∈rs,uj r) (hn:rs.length<=1048576) :
  Calls Tryz.prog 30 #[.agg #[.int .i64 g.aB,vg,gi,go],v] w (nH (xK g rs) w):=by
 obtain⟨⟨ga,gc,rfl⟩,⟨ia,ic,rfl⟩,oa,oc,rfl⟩:=hG.slices;obtain⟨ra,rc,rfl⟩:=hR.slice;have hB:=aH w (.cells #[.int .i64 g.aB,.slice ga g.ah.length gc,.slice ia g.aj.length ic,.slice oa g.ay.length oc] 33);have HM:=Za (atm _ _ _ g _ (hG.keep hB) aP);have HR:=Za (λ(u:World) (hu:Below w.heap.size w u)=>atq rs _ u (hR.keep hu) hz hn);clear hG hR aP hz;unfold xK;generalize(aY g&&monoB g)=a at *;generalize Ak rs=b at *;go_enter Tryz.func30,Tryz.ntmps30;go_wp2_with fail
 refine HM.out.mono ?_;rintro e u1⟨rfl,hb1⟩;have aS:=hB.trans (hb1.mono hB.size);clear hb1 hB;cases a with
 | false =>
  go_wp2;go_ret;exact⟨rfl,aS⟩
 | true =>
  go_wp2_with fail
  refine(HR.out u1 aS).mono ?_;rintro e u2⟨rfl,hb2⟩;have aZ:=aS.trans (hb2.mono aS.size);clear hb2 aS;go_wp2;go_ret;exact⟨rfl,aZ⟩
def abw (g:aF) (rs:List dP):Bool:=(o_ g rs rs.length).isEmpty
theorem atw (g:aF) (rs:List dP) (vg gi go v:Value) (w:World) (hG:dM w vg gi go g) (aP:nJ g) (hR:qQ w v rs) (hz:∀r∈rs,uj r) (hn:rs.length<=1048576) :
  Calls Tryz.prog 9 #[.agg #[.int .i64 g.aB,vg,gi,go],v] w λe w'=>e=.returned (.tuple #[.bool (xK g rs&&abw g rs),.bool (xK g rs)])/\Below w.heap.size w w':=by
 obtain⟨⟨ga,gc,rfl⟩,⟨ia,ic,rfl⟩,oa,oc,rfl⟩:=hG.slices;obtain⟨ra,rc,rfl⟩:=hR.slice;have hB:=aH w (.cells #[.int .i64 g.aB,.slice ga g.ah.length gc,.slice ia g.aj.length ic,.slice oa g.ay.length oc] 33);have kG:=Bk.new w 33 #[.int .i64 g.aB,.slice ga g.ah.length gc,.slice ia g.aj.length ic,.slice oa g.ay.length oc];have HA:=Za (atv g rs _ _ _ _ _ (hG.keep hB) aP (hR.keep hB) hz hn);have H_:=Za (λ(ha:xK g rs=true) (u:World) (hu:Below w.heap.size w u)=>(show Calls Tryz.prog 31 #[.agg #[.int .i64 g.aB,.slice ga g.ah.length gc,.slice ia g.aj.length ic,.slice oa g.ay.length oc],.slice ra rs.length rc] u (adk (o_ g rs rs.length) u)from by
  unfold xK at ha;simp only[Zu]at ha;obtain⟨⟨h1,h2⟩,h3⟩:=ha;obtain⟨W,hW,-⟩:=(eF h1).1;obtain⟨h4,-,h5⟩:=alG hz h3;rw[hW];exact atj g rs W hW h1 (alH h2) h4 h5 _ _ _ _ u (hG.keep hu) (hR.keep hu)))
 unfold abw;generalize o_ g rs rs.length=M at *;clear hG hR aP hz;go_enter Tryz.func9,Tryz.ntmps9;go_wp2_with fail
 refine HA.out.mono ?_;rintro e u1⟨rfl,hb1⟩;have aS:=hB.trans (hb1.mono hB.size);have gG:=kG.keep hb1;cases ha:xK g rs with
 | false =>
  have LV:=Za ha;clear hb1 hB kG H_ ha;go_wp2;go_ret2
  exact⟨by rw[LV.out];rfl,aS⟩
 | true =>
  have HC:=Za (H_.out ha u1 aS);have gc:=gG.cell.1;have g0:=gc 0;have g1:=gc 1;have g2:=gc 2;have g3:=gc 3;have gz:=gG.lt;simp only[Ze,Zc,Zd]at g0 g1 g2 g3;have LV:=Za ha;clear hb1 hB kG H_ gc gG ha;go_wp2_with fail
  refine HC.out.mono ?_;rintro e u2⟨vm,rfl,hm,hb2⟩;obtain⟨ma,mc,rfl⟩:=hm.slice;have aZ:=aS.trans (hb2.mono aS.size);clear hm hb2 aS g0 g1 g2 g3 gz HC;cases M with
  | nil =>
   go_wp2;go_ret2
   exact⟨by rw[LV.out];rfl,aZ⟩
  | cons x M =>
   have hne:¬((M.length:Int)+1=0):=by omega
   have Gj:(((M.length:Int)+1)==0)=false:=by rw[Yu];exact hne
   go_wp2;go_ret2
   exact⟨by rw[LV.out];rfl,aZ⟩
open Go.Maps
theorem alI:Keyed Tryz.prog 9:=string_keyed Tryz.underlying9
def kN (s:ByteArray):Lit:=.string s.data.toList
theorem atx (s:ByteArray):WideAt.IsKeyLit (kN s):=by unfold kN;trivial
theorem aty {a b:ByteArray} (h:¬a=b):kN a≠kN b:=λe=>h (by
 unfold kN at e;simp only[Lit.string.injEq]at e;obtain⟨⟨a⟩⟩:=a;obtain⟨⟨b⟩⟩:=b;simp only at e;rw[e])
def Js (S:List ByteArray) (s:ByteArray):Bool:=S.any λx=>decide (x=s)
theorem atz {S:List ByteArray} {s:ByteArray}:Js S s=true↔s∈S:=by simp[Js]
theorem alJ (S:List ByteArray) (a s:ByteArray):Js (S++[a]) s=(Js S s || decide (a=s)):=by simp[Js]
def NsI (D:DataW Unit) (S:List ByteArray):Prop:=∀s:ByteArray,D.atKey (kN s) (.lit (.bool false))=.lit (.bool (Js S s))
def Oq (w:World) (b n:Nat) (S:List ByteArray):Prop:=∃D,w.ownsMap Tryz.prog 9 (plainElem (H:=Unit) Tryz.prog 4) b n D/\NsI D S
theorem Oq.keep {w w':World} {b n:Nat} {S:List ByteArray} (hb:Below w.heap.size w w') (h:Oq w b n S):Oq w' b n S:=by
 obtain⟨D,⟨es,clock,h1,r⟩,hm⟩:=h;exact⟨D,⟨es,clock,(hb.block b (ZP.1 h1).1).trans h1,r⟩,hm⟩
theorem atA:NsI (.map []) []:=λs=>rfl
theorem atB {D:DataW Unit} {S:List ByteArray} {a:ByteArray} (h:NsI D S) (hD:IsMap D):NsI (D.put (kN a) (.lit (.bool true))) (S++[a]):=by
 intro s;by_cases e:s=a
 ·subst e;rw[atKey_put_same hD (atx _),alJ];simp
 ·rw[atKey_put_other (aty e),h s,alJ];have e2:¬a=s:=λh=>e h.symm;simp[e2]
theorem Oq.look {w:World} {b n:Nat} {S:List ByteArray} (h:Oq w b n S) (s:ByteArray) (hs:s.size<=1048576):(Instr.lookup 144 (.map (some b)) (.string s) false).run Tryz.prog w=.ok (.bool (Js S s)) w:=by
 obtain⟨D,hown,hm⟩:=h;obtain⟨v,ps,hrun,hv⟩:=hown.lookup alI Tryz.underlying144 (as4 w) (zd:=.lit (.bool false)) (zp:=[]) (plainElem_bool Tryz.underlying4 false) (WideMaps.keyOf_string_mk Tryz.underlying9 (s:=s) (by unfold maxLen;omega));have h1:D.atKey (Lit.string s.data.toList) (.lit (.bool false))=.lit (.bool (Js S s)):=hm s;rw[h1]at hv;unfold plainElem at hv;rw[Tryz.underlying4]at hv;cases v<;>simp at hv;rw[hrun,hv.1]
theorem alK (nm:ByteArray) (la ra:Option Addr) (ln lc rn rc:Nat) (ns:List Nd) (x:W2) (w:World) (hL:dG w (.slice la ln lc) ns) (rC:bP (bI []) ns=some x) :
  Calls Tryz.prog 63 #[.agg #[.string nm,.slice la ln lc,.slice ra rn rc]] w (nZ (ng (lS ns)) w):=by
 have HC:=Za (λ(u:World) (hu:Below w.heap.size w u)=>adb _ ns x u (hL.keep hu) rC);clear hL;go_enter Tryz.func63,Tryz.ntmps63;go_wp2_with fail
 have hb1:=aH w (.cells #[.string nm,.slice la ln lc,.slice ra rn rc] 66);have hb2:=hb1.trans ((aH (w.alloc (.cells #[.string nm,.slice la ln lc,.slice ra rn rc] 66)) (.cells #[.int .i64 0,.slice none 0 0,.slice none 0 0,.slice none 0 0] 33)).mono hb1.size);have kR:=Bk.new (w.alloc (.cells #[.string nm,.slice la ln lc,.slice ra rn rc] 66)) 33 #[.int .i64 0,.slice none 0 0,.slice none 0 0,.slice none 0 0];have eU:=kR.lt;simp only[Zn]at kR;refine(HC.out _ hb2).mono ?_;rintro e w1⟨ve,vi,vo,rfl,hO,hb3⟩;obtain⟨a1,c1,rfl⟩:=hO.ed.slice;obtain⟨a2,c2,rfl⟩:=hO.inn.slice;obtain⟨a3,c3,rfl⟩:=hO.out.slice;have qO:=kR.keep hb3;have hsz:=hb2.size;have hBz:w.heap.size+1<((w.alloc (.cells #[.string nm,.slice la ln lc,.slice ra rn rc] 66)).alloc (.cells #[.int .i64 0,.slice none 0 0,.slice none 0 0,.slice none 0 0] 33)).heap.size:=by simp
 have HG:=Za hO;have HB:=Za (hb2.trans (hb3.mono hb2.size));generalize ng (lS ns)=g at *;clear HC hb1 hb2 hb3 kR hO eU;obtain⟨iR,fR,zR⟩:=qO.cell;clear qO;go_wp2;refine Zt (v:=.agg #[.int .i64 g.aB,.slice a1 g.ah.length c1,.slice a2 g.aj.length c2,.slice a3 g.ay.length c3]) (by simp[results,Tryz.results63,go_sem,iR,fR,zR]) rfl ⟨_,_,_,rfl,((HG.out.res hBz _ _ _ _).keep (aH _ _)).mono hsz,?_⟩;have h4:=iU HB.out (b:=w.heap.size+1) (by omega) (.int .i64 g.aB) (.slice a1 g.ah.length c1) (.slice a2 g.aj.length c2) (.slice a3 g.ay.length c3);exact h4.trans ((aH _ _).mono h4.size)
theorem alL (nm:ByteArray) (la ra:Option Addr) (ln lc rn rc:Nat) (ns:List Nd) (x:W2) (w:World) (hL:dG w (.slice ra rn rc) ns) (rC:bP (bI []) ns=some x) :
  Calls Tryz.prog 89 #[.agg #[.string nm,.slice la ln lc,.slice ra rn rc]] w (nZ (ng (lS ns)) w):=by
 have HC:=Za (λ(u:World) (hu:Below w.heap.size w u)=>adb _ ns x u (hL.keep hu) rC);clear hL;go_enter Tryz.func89,Tryz.ntmps89;go_wp2_with fail
 have hb1:=aH w (.cells #[.string nm,.slice la ln lc,.slice ra rn rc] 66);have hb2:=hb1.trans ((aH (w.alloc (.cells #[.string nm,.slice la ln lc,.slice ra rn rc] 66)) (.cells #[.int .i64 0,.slice none 0 0,.slice none 0 0,.slice none 0 0] 33)).mono hb1.size);have kR:=Bk.new (w.alloc (.cells #[.string nm,.slice la ln lc,.slice ra rn rc] 66)) 33 #[.int .i64 0,.slice none 0 0,.slice none 0 0,.slice none 0 0];have eU:=kR.lt;simp only[Zn]at kR;refine(HC.out _ hb2).mono ?_;rintro e w1⟨ve,vi,vo,rfl,hO,hb3⟩;obtain⟨a1,c1,rfl⟩:=hO.ed.slice;obtain⟨a2,c2,rfl⟩:=hO.inn.slice;obtain⟨a3,c3,rfl⟩:=hO.out.slice;have qO:=kR.keep hb3;have hsz:=hb2.size;have hBz:w.heap.size+1<((w.alloc (.cells #[.string nm,.slice la ln lc,.slice ra rn rc] 66)).alloc (.cells #[.int .i64 0,.slice none 0 0,.slice none 0 0,.slice none 0 0] 33)).heap.size:=by simp
 have HG:=Za hO;have HB:=Za (hb2.trans (hb3.mono hb2.size));generalize ng (lS ns)=g at *;clear HC hb1 hb2 hb3 kR hO eU;obtain⟨iR,fR,zR⟩:=qO.cell;clear qO;go_wp2;refine Zt (v:=.agg #[.int .i64 g.aB,.slice a1 g.ah.length c1,.slice a2 g.aj.length c2,.slice a3 g.ay.length c3]) (by simp[results,Tryz.results89,go_sem,iR,fR,zR]) rfl ⟨_,_,_,rfl,((HG.out.res hBz _ _ _ _).keep (aH _ _)).mono hsz,?_⟩;have h4:=iU HB.out (b:=w.heap.size+1) (by omega) (.int .i64 g.aB) (.slice a1 g.ah.length c1) (.slice a2 g.aj.length c2) (.slice a3 g.ay.length c3);exact h4.trans ((aH _ _).mono h4.size)
theorem agj (v:Value) (zs:List Int) (x:Int) (w:World) (hv:aU w v zs) (hn:zs.length<=1048576) :
  Calls Tryz.prog 159 #[v,.int .i64 x] w λe w'=>e=.returned (.int .i64 (Lr (λz=>decide (z=x)) zs))/\w=w':=by
 obtain⟨a,cap,rfl,hc,hat⟩:=hv;go_enter Tryz.func159,Tryz.ntmps159;go_wp2;go_loopw [8] (λi wr=>∃k:Nat,k<=zs.length/\i=.int .i64 k/\wr=w/\∀j,∀h:j<zs.length,j<k->(zs[j]'h)≠x) (λi _=>zs.length-(intOf i).toNat)
 case atStart=>exact⟨0,Zw _,rfl,by first|rfl|trivial,λj h1 h2=>by omega⟩
 case round =>
  obtain⟨k,hk,rfl,Ko,hall⟩:=hrel;subst Ko;have jO:=Za hall;clear hall;by_cases hlt:k<zs.length
  ·obtain⟨b,o,rfl,_,c0⟩:=hat k hlt;rw[Z2]at c0;have bz:=cell_lt c0;by_cases hb:zs[k]=x
   ·have HF:=Za (ak3 (p:=λz=>decide (z=x)) hlt (λj hj hjk=>by simpa using jO.out j hj hjk) (by simpa using hb));rw[hb]at c0;clear hb hat
    go_wp2;go_ret;exact⟨by rw[HF.out];rfl,rfl⟩
   ·have HB:=Za hb;have hne:(zs[k]==x)=false:=by simp[hb]
    have Gj:(x==zs[k])=false:=by simp only[Yu,ne_eq];exact λe=>hb e.symm
    generalize hz:zs[k]=z at c0 hne Gj;clear hb hat hz;go_wp2;go_roundw
    case rel=>exact⟨k+1,by omega,by go_num,by first|rfl|trivial,λj h1 h2=>by
     rcases Yj j k with h|h
     ·exact jO.out j h1 h
     ·obtain rfl:j=k:=by omega
      exact HB.out⟩
    case measure=>simp[intOf];omega
  ·obtain rfl:k=zs.length:=by omega
   have HF:=Za (ak4 (p:=λz=>decide (z=x)) (λj hj=>by simpa using jO.out j hj hj));clear hat
   go_wp2;go_ret;exact⟨by rw[HF.out];rfl,rfl⟩
theorem adv (v:Value) (zs:List Int) (x:Int) (w:World) (hv:aU w v zs) (hn:zs.length<=1048576) :
  Calls Tryz.prog 129 #[v,.int .i64 x] w λe w'=>e=.returned (.bool (decide (x∈zs)))/\w=w':=by
 obtain⟨a,cap,rfl⟩:=hv.slice;have HI:=Za (agj _ zs x w hv hn);have hfa:=asZ (λz=>decide (z=x)) zs;clear hv;go_enter Tryz.func129,Tryz.ntmps129;go_wp2_with fail
 refine HI.out.mono ?_;rintro e w2⟨rfl,rfl⟩;clear HI;generalize Lr (λz=>decide (z=x)) zs=r at hfa;have HFA:=Za hfa;clear hfa;go_wp2;go_ret;refine⟨?_,rfl⟩;have h2:decide (x∈zs)=zs.any λz=>decide (z=x):=by
  rw[YK];simp
 rw[h2];by_cases h0:0<=r
 ·rw[HFA.out.1 h0];simp[h0]
 ·have:(zs.any λz=>decide (z=x))=false:=by
   cases h:zs.any λz=>decide (z=x)with
   | false=>rfl
   | true=>exact absurd (HFA.out.2 h) h0
  rw[this];simp[h0]
def slB (vs:List Value):Prop:=∀x∈vs,∃a n c,x=.slice a n c
structure NsO (w:World) (E:List aO) (G:Nat) (t:TypeId) (cs:Array Value) (k:Nat) (wr:World) (vs:List Value):Prop where
 len:vs.length=E.length
 bk:Bk wr G 23 vs.toArray
 sl:slB vs
 done:∀j,∀h:j<vs.length,∀h2:j<E.length,j<k->aU wr (vs[j]'h) (asY E (E[j]'h2))
 nil:∀j,∀h:j<vs.length,k<=j->vs[j]=.slice none 0 0
 bel:Below w.heap.size w wr
 kg:Bk wr w.heap.size t cs
end Go.Proofs.YtkhpobekconobaaGreat
