import Derived.Test.YtkhpobekconobaaGreatHAS
set_option linter.all false
set_option maxRecDepth 100000
set_option maxHeartbeats 0
namespace Go.Proofs.YtkhpobekconobaaGreat
open Go.RowKit
theorem aki {xs:List wV} {b a:aF} {r:List aF} (h:(xs.map Prod.fst).reverse=b::a::r):∃gJ xa xb,xs=gJ++[xa,xb]/\xa.1=a/\xb.1=b/\(gJ.map Prod.fst).reverse=r:=by
 rw[<-VD]at h;obtain⟨ys,nS⟩:∃ys,xs.reverse=ys:=⟨_,rfl⟩
 rw[nS]at h;match ys,h with
 | xb::xa::zs,h =>
  simp only[Yx,WT]at h;obtain⟨h1,h2,h3⟩:=h;refine⟨zs.reverse,xa,xb,?_,h2,h1,?_⟩
  ·have:=congrArg List.reverse nS;rw[Wj]at this;rw[this];simp
  ·rw[<-VD,Wj];exact h3
theorem vT.two {w:World} {B g cap:Nat} {gJ:List wV} {xa xb:wV} (h:vT w B (.slice (some ⟨g,0,none⟩) (gJ++[xa,xb]).length cap) (gJ++[xa,xb])) :
  (w.cell? ⟨g,gJ.length*4,none⟩=some (.int .i64 xa.1.aB)/\w.cell? ⟨g,gJ.length*4+1,none⟩=some xa.2.1/\w.cell? ⟨g,gJ.length*4+2,none⟩=some xa.2.2.1/\w.cell? ⟨g,gJ.length*4+3,none⟩=some xa.2.2.2) /\
  (w.cell? ⟨g,(gJ.length+1)*4,none⟩=some (.int .i64 xb.1.aB)/\w.cell? ⟨g,(gJ.length+1)*4+1,none⟩=some xb.2.1/\w.cell? ⟨g,(gJ.length+1)*4+2,none⟩=some xb.2.2.1/\w.cell? ⟨g,(gJ.length+1)*4+3,none⟩=some xb.2.2.2):=by
 have c1:=h.cells gJ.length (by simp);have c2:=h.cells (gJ.length+1) (by simp);have e1:(gJ++[xa,xb])[gJ.length]'(by simp)=xa:=by simp
 have e2:(gJ++[xa,xb])[gJ.length+1]'(by simp)=xb:=by simp
 rw[e1]at c1;rw[e2]at c2;exact⟨c1,c2⟩
theorem arO (x y:wV) (u:World) (hx:dM u x.2.1 x.2.2.1 x.2.2.2 x.1) (hy:dM u y.2.1 y.2.2.1 y.2.2.2 y.1) (ga:aY x.1=true) (gb:aY y.1=true) (jM:x.1.ay.length=y.1.aj.length) :
  Calls Tryz.prog 132 #[.agg #[.int .i64 x.1.aB,x.2.1,x.2.2.1,x.2.2.2],.agg #[.int .i64 y.1.aB,y.2.1,y.2.2.1,y.2.2.2]] u (Ad (pI x.1 y.1) u):=by
 obtain⟨⟨W,E,I,O⟩,ve,vi,vo⟩:=x;obtain⟨⟨W',E',I',O'⟩,ve',lJ,ig⟩:=y;obtain⟨⟨n,h0,-⟩,-⟩:=eF ga;obtain⟨⟨m,k0,-⟩,-⟩:=eF gb;simp only at h0 k0;subst h0;subst k0;exact(aqH n m E E' I I' O O' ve vi vo ve' lJ ig u hx hy ga gb jM).mono λ_ _ h=>h.mq
theorem arP (x y:wV) (u:World) (hx:dM u x.2.1 x.2.2.1 x.2.2.2 x.1) (hy:dM u y.2.1 y.2.2.1 y.2.2.2 y.1) (ga:aY x.1=true) (gb:aY y.1=true) :
  Calls Tryz.prog 133 #[.agg #[.int .i64 x.1.aB,x.2.1,x.2.2.1,x.2.2.2],.agg #[.int .i64 y.1.aB,y.2.1,y.2.2.1,y.2.2.2]] u (Ad (ql x.1 y.1) u):=by
 obtain⟨⟨W,E,I,O⟩,ve,vi,vo⟩:=x;obtain⟨⟨W',E',I',O'⟩,ve',lJ,ig⟩:=y;obtain⟨⟨n,h0,-⟩,-⟩:=eF ga;obtain⟨⟨m,k0,-⟩,-⟩:=eF gb;simp only at h0 k0;subst h0;subst k0;exact(aqM n m E E' I I' O O' ve vi vo ve' lJ ig u hx hy ga gb).mono λ_ _ h=>h.mq
theorem afT {p q x:W2} (h:og 15 p q=some x):p.2=q.1/\x=(p.1,q.2):=by
 unfold og at h;rw[ZE rfl]at h;split at h
 ·rename_i hh;exact⟨hh,by simpa using h.symm⟩
 ·cases h
theorem arQ {p q x:W2} (h:og 16 p q=some x):x=(p.1+q.1,p.2+q.2):=by
 unfold og at h;rw[ZH (by decide)]at h;split at h
 ·simpa using h.symm
 ·cases h
theorem arR {a b:aF} {p q x:W2} (ha:IL a p) (hb:IL b q) (hj:og 15 p q=some x) (hg:aY (pI a b)=true):IL (pI a b) x:=by
 obtain⟨h1,rfl⟩:=afT hj;exact⟨hg,by rw[aeC];exact ha.a,by rw[aeD];exact hb.b⟩
theorem arS {a b:aF} {p q x:W2} (ha:IL a p) (hb:IL b q) (hj:og 16 p q=some x) (hg:aY (ql a b)=true):IL (ql a b) x:=by
 obtain rfl:=arQ hj;refine⟨hg,?_,?_⟩
 ·rw[aeE];have:=ha.a;have:=hb.a;simp only;omega
 ·rw[aeF];have:=ha.b;have:=hb.b;simp only;omega
theorem akj {a b:aF} (ha:aY a=true) (hb:aY b=true):nJ (pI a b):=by
 have h:=aaE ha hb;have h1:=h.ok;refine⟨?_,λe he=>?_,?_,?_⟩
 ·unfold pI tV mZ;simp only[ZG];have:=h1.ed;omega
 ·unfold pI tV mZ at he;obtain⟨x,hx,rfl⟩:=ZM.1 he;have:=h1.xO x hx;exact⟨by simp only[jm,gY];omega,by simp only[jm,gY];omega⟩
 ·rw[aeC];have:=(eF ha).2.2.1;omega
 ·rw[aeD];have:=(eF hb).2.2.2.1;omega
theorem akk {a b:aF} (ha:aY a=true) (hb:aY b=true):nJ (ql a b):=by
 have h:=aaE ha hb;have h1:=h.ok;refine⟨?_,λe he=>?_,?_,?_⟩
 ·show(lN a b).ah.length<=1048576;have:=h1.ed;omega
 ·have:=h1.xO e he;exact⟨by omega,by omega⟩
 ·rw[aeE];have:=(eF ha).2.2.1;have:=(eF hb).2.2.1;omega
 ·rw[aeF];have:=(eF ha).2.2.2.1;have:=(eF hb).2.2.2.1;omega
theorem arT {a:aF} (ha:aY a=true):nJ a:=by
 obtain⟨⟨n,h0,-⟩,-⟩:=eF ha;exact(CX ha h0).ok.ok
theorem adb (v:Value) (ns:List Nd) (x:W2) (w:World) (hv:dG w v ns) (rC:bP (bI []) ns=some x) :
  Calls Tryz.prog 94 #[.agg #[v]] w (KH (lS ns) w):=by
 have lD:=Nl rC;have hgo:eX (bI []) ns []=some [x]:=by
  unfold bP at rC;split at rC
  ·split at rC
   ·rename_i y hy;rw[hy];simpa using rC
   ·cases rC
  ·cases rC
 obtain⟨R,hR⟩:∃R,lS ns=R:=⟨_,rfl⟩
 have BD:=Za (Zb hgo hR);rw[hR];clear rC hgo hR;obtain⟨av,cv,rfl,hcv,hat⟩:=hv;have HAT:=Za hat
 clear hat
 have aQ:=aH w (.cells #[.slice av ns.length cv] 64);have aT:=aH (w.alloc (.cells #[.slice av ns.length cv] 64)) (.cells #[.int .i64 0,.slice none 0 0,.slice none 0 0,.slice none 0 0] 33);have hB:=aQ.trans (aT.mono aQ.size);have kR:=Bk.new (w.alloc (.cells #[.slice av ns.length cv] 64)) 33 #[.int .i64 0,.slice none 0 0,.slice none 0 0,.slice none 0 0];simp only[Zn]at kR;go_enter Tryz.func94,Tryz.ntmps94;go_wp2_with fail
 have abX:((w.alloc (.cells #[.slice av ns.length cv] 64)).alloc (.cells #[.int .i64 0,.slice none 0 0,.slice none 0 0,.slice none 0 0] 33)).heap.size=w.heap.size+1+1:=by simp
 have hg0:=vT.empty ((w.alloc (.cells #[.slice av ns.length cv] 64)).alloc (.cells #[.int .i64 0,.slice none 0 0,.slice none 0 0,.slice none 0 0] 33)) (w.heap.size+1+1) (w.heap.size+1+1) (by simp) (Zj _);have dU:=aH ((w.alloc (.cells #[.slice av ns.length cv] 64)).alloc (.cells #[.int .i64 0,.slice none 0 0,.slice none 0 0,.slice none 0 0] 33)) (.cells #[] 33);clear aQ aT;generalize((w.alloc (.cells #[.slice av ns.length cv] 64)).alloc (.cells #[.int .i64 0,.slice none 0 0,.slice none 0 0,.slice none 0 0] 33))=u0 at *;have GY:=Za abX;clear abX;go_loopw [4,13] (λsv i wr=>∃k:Nat,k<=ns.length/\i=.int .i64 k/\∃xs tys,vT wr (w.heap.size+1+1) sv xs/\xs.length<=k/\Below u0.heap.size u0 wr/\Hid (eX (bI []) (ns.drop k) tys=some [x])/\Hid (NS (xs.map Prod.fst).reverse tys)/\Hid (qm ns []=qm (ns.drop k) (xs.map Prod.fst).reverse)) (λ_ i _=>ns.length-(intOf i).toNat)
 case atStart=>exact⟨0,Zw _,rfl,[],[],hg0,Zj _,dU,BD.out.1,trivial,rfl⟩
 case round =>
  clear hg0 dU;obtain⟨k,hk,rfl,xs,tys,hst,Jd,aI,HT,HM,HGG⟩:=hrel;by_cases hlk:k<ns.length
  ·obtain⟨bn,on,rfl,_,n0,n1,n2⟩:=HAT.out k hlk;have b_:=hB.trans (aI.mono hB.size);replace n0:=aK b_ n0;replace n1:=aK b_ n1;replace n2:=aK b_ n2;have zn:=cell_lt n0;have F6:=ZN hlk;obtain⟨n,hn⟩:∃n,ns[k]=n:=⟨_,rfl⟩
   rw[hn]at n0 n1 n2 F6;have lI:=HT.out;have jF:=HGG.out;rw[F6]at lI jF;have qO:=kR.keep aI;have wS:=aI.size;have hs0:=GY.out;have h58:wr.heap.size+1<=wr.heap.size+1+1:=by omega
   have HLK:=Za hlk;clear hn F6 HT HGG hs0;by_cases mQ:n.kind=15
   ·have hjj:∃b a r y,tys=b::a::r/\og 15 a b=some y/\eX (bI []) (ns.drop (k+1)) (y::r)=some [x]:=by
     unfold eX at lI;rw[ZE (.inl mQ)]at lI;split at lI
     ·split at lI
      ·rename_i b a r
       rw[mQ]at lI;split at lI
       ·rename_i y hy
        exact⟨b,a,r,y,rfl,hy,lI⟩
       ·cases lI
      ·cases lI
     ·cases lI
    obtain⟨tb,ta,tr,ty,rfl,CP,N7⟩:=hjj;obtain⟨gs,kH⟩:∃gs,(xs.map Prod.fst).reverse=gs:=⟨_,rfl⟩
    have xW:=HM.out;rw[kH]at xW jF;obtain⟨gb,ga,gr,rfl⟩:∃gb ga gr,gs=gb::ga::gr:=by
     have:=xW.len;match gs,this with
     | [],h=>simp at h
     | [_],h=>simp at h
     | b::a::r,_=>exact⟨b,a,r,rfl⟩
    obtain⟨mb,ma,mr⟩:=xW;obtain⟨gJ,xa,xb,rfl,rfl,rfl,sJ⟩:=aki kH;rw[ait mQ]at jF;obtain⟨G,hG⟩:∃G,pI xa.1 xb.1=G:=⟨_,rfl⟩
    have QF:=λhg=>arR ma mb CP hg;have QG:=akj ma.ok mb.ok;have jM:xa.1.ay.length=xb.1.aj.length:=by have h1:=ma.b;have h2:=mb.a;have h3:=(afT CP).1;omega
    obtain⟨g,cap,rfl,ED,wK,SA⟩:=hst.blk (by simp);obtain⟨ca,cb⟩:=hst.two;have hq:=(λu (hb:Below wr.heap.size wr u)=>arO xa xb u ((hst.rws xa (by simp)).keep hb).at ((hst.rws xb (by simp)).keep hb).at ma.ok mb.ok jM)
    rw[hG]at jF QF QG hq;have D7:=Za N7;have Je:=Za jF;have HMD:=Za QF;have N8:=Za mr;have HR0:=Za sJ;have jf:=Za QG;have oC:=Za Jd;have HQ:=Za hq;have HST:=Za hst;rw[Zk]at ED Jd ⊢;simp only[Yv,Y6]at ED Jd ⊢;obtain⟨l0,hl0⟩:∃l,gJ.length=l:=⟨_,rfl⟩
    rw[hl0]at ca cb ED Jd ⊢;have QH:=Za hl0;clear hl0 hst N7 jF jM CP ma mb mr sJ kH HM lI QF QG hq hG;obtain⟨a0,a1,a2,a3⟩:=ca;obtain⟨b0,b1,b2,b3⟩:=cb;have dQ:IntKind.i64.wrap ((l0:Int)+2-1)=(l0:Int)+1:=by rw[Z8 _ (by omega)];omega
    have hw2:IntKind.i64.wrap (l0:Int)=(l0:Int):=Z8 _ (by omega);have zL:(l0:Int)<(l0:Int)+2:=by omega
    have arU:(l0:Int)+1<(l0:Int)+2:=by omega
    go_wp2_with fail
    have dV:=aH wr (.cells #[.int .i64 15,.int .i64 n.value,.string n.name] 116);have fP:=aH (wr.alloc (.cells #[.int .i64 15,.int .i64 n.value,.string n.name] 116)) (.cells #[.int .i64 0,.slice none 0 0,.slice none 0 0,.slice none 0 0] 33);have hb2:=dV.trans (fP.mono dV.size);have k8:=Bk.new (wr.alloc (.cells #[.int .i64 15,.int .i64 n.value,.string n.name] 116)) 33 #[.int .i64 0,.slice none 0 0,.slice none 0 0,.slice none 0 0];simp only[Zn]at k8;clear dV fP;generalize((wr.alloc (.cells #[.int .i64 15,.int .i64 n.value,.string n.name] 116)).alloc (.cells #[.int .i64 0,.slice none 0 0,.slice none 0 0,.slice none 0 0] 33))=u2 at *;replace a0:=aK hb2 a0;replace a1:=aK hb2 a1;replace a2:=aK hb2 a2;replace a3:=aK hb2 a3;replace b0:=aK hb2 b0;replace b1:=aK hb2 b1;replace b2:=aK hb2 b2;replace b3:=aK hb2 b3;have arV:=cell_lt a0;have Bd:¬g=wr.heap.size+1:=by omega
    generalize yY:wr.heap.size+1=b8 at *;have Ut:=Za yY;have bd:∀{u:World},Below u2.drew.heap.size u2.drew u->Below wr.heap.size wr u:=λh=>hb2.trans (((Zl u2.heap.size u2).drew.trans (h.mono (by simp))).mono hb2.size);clear yY n0 n1 n2;refine h_ (C:=aC ((λj=>j=b8)) _) 4 [0,1,2,3,4,5,6,7,8,9,10] (by kernel_rfl) (by kernel_rfl) (aC.aJ _ _) (aC.refl _ _) ?_;iterate 9 (apply i_ rfl rfl rfl;(focus intro u hc' hf';(try simp only[Zo]at hc' hf');go_simp<;>rfl);intro K hK;go_simp;apply hK;clear hK K)
    refine fD rfl rfl rfl (aC.aJ _ _) (aC.refl _ _) 132 (λK hK=>?_);apply Zq;refine⟨λw' hw'=>?_,λwa bT bZ=>?_⟩;(focus go_simp;rfl);refine(HQ.out _ (bd bZ)).mono ?_;rintro e w4⟨x1,y1,x2,y2,x3,y3,rfl,hg4,hb4⟩;refine⟨_,rfl,hb4,λhx=>?_⟩;go_simp;apply hK;clear hK K;have wZ:=(bd bZ).trans (hb4.mono (bd bZ).size);refine jd rfl rfl rfl (aC.aJ _ _) hx (λK hK=>?_);intro w5 gu jT;have h24:Below u2.heap.size u2 w5:=(((Zl u2.heap.size u2).drew.trans (bZ.mono (by simp))).trans (hb4.mono (by have:=bZ.size;simpa using this))).trans (jT.mono (by have:=bZ.size;have:=hb4.size;simp at *;omega));have sS:=k8.keep h24;obtain⟨m0,m1,m2⟩:=sS.cell;have D8:=hg4.keep jT;refine⟨(((w5.setCell ⟨b8,0,none⟩ (.int .i64 G.aB)).setCell ⟨b8,1,none⟩ (.slice x1 G.ah.length y1)).setCell ⟨b8,2,none⟩ (.slice x2 G.aj.length y2)).setCell ⟨b8,3,none⟩ (.slice x3 G.ay.length y3),?_,⟨bF (bF (bF (bF gu (.inr rfl) _) (.inr rfl) _) (.inr rfl) _) (.inr rfl) _,by simp,λj hj _ _=>by
     have gV:¬(j=b8):=by intro hh;have:=k8.lt;simp only[Zo]at hj;omega
     rw[Zm _ _ _ _ (λh=>gV (by simpa using h)),Zm _ _ _ _ (λh=>gV (by simpa using h)),Zm _ _ _ _ (λh=>gV (by simpa using h)),Zm _ _ _ _ (λh=>gV (by simpa using h))]⟩,?_⟩
    ·go_simp
    go_simp;refine hK _ _ _ ?_;clear hK K;refine dR ?_;have sU:=Ut.out;have qW:wr.heap.size<=b8:=by omega
    have yS:Below wr.heap.size wr ((((w5.setCell ⟨b8,0,none⟩ (.int .i64 G.aB)).setCell ⟨b8,1,none⟩ (.slice x1 G.ah.length y1)).setCell ⟨b8,2,none⟩ (.slice x2 G.aj.length y2)).setCell ⟨b8,3,none⟩ (.slice x3 G.ay.length y3)):=iU (wZ.trans (jT.mono wZ.size)) qW _ _ _ _;have k9:Bk ((((w5.setCell ⟨b8,0,none⟩ (.int .i64 G.aB)).setCell ⟨b8,1,none⟩ (.slice x1 G.ah.length y1)).setCell ⟨b8,2,none⟩ (.slice x2 G.aj.length y2)).setCell ⟨b8,3,none⟩ (.slice x3 G.ay.length y3)) b8 33 #[.int .i64 G.aB,.slice x1 G.ah.length y1,.slice x2 G.aj.length y2,.slice x3 G.ay.length y3]:=(((sS.set 0 _).set 1 _).set 2 _).set 3 _;have hgo:=(((D8.mono (B':=w.heap.size+1+1) (by have:=GY.out;have:=(bd bZ).size;omega)).setB sS (by decide) (by decide) 0 (.int .i64 G.aB)).setB (sS.set 0 _) (by decide) (by decide) 1 (.slice x1 G.ah.length y1)).setB ((sS.set 0 _).set 1 _) (by decide) (by decide) 2 (.slice x2 G.aj.length y2);have N9:=Za (hgo.setB (((sS.set 0 _).set 1 _).set 2 _) (by decide) (by decide) 3 (.slice x3 G.ay.length y3));have ou:=(HST.out.keep yS).take;rw[QH.out]at ou;have abh:=Za ou;have pU:=qO.keep yS;clear sS m0 m1 m2 D8 hg4 hb4 gu jT h24 hx bT bZ wZ a0 a1 a2 a3 b0 b1 b2 b3 hgo ou hb2 k8 bd;generalize((((w5.setCell ⟨b8,0,none⟩ (.int .i64 G.aB)).setCell ⟨b8,1,none⟩ (.slice x1 G.ah.length y1)).setCell ⟨b8,2,none⟩ (.slice x2 G.aj.length y2)).setCell ⟨b8,3,none⟩ (.slice x3 G.ay.length y3))=W at *;obtain⟨i9,f9,z9⟩:=k9.cell;have e6:0<=(l0:Int)/\(l0:Int)<=(cap:Int):=by omega
    go_wp2_with fail
    refine(aan _ _ _ G W N9.out.at jf.out).mono ?_;rintro e w9⟨rfl,dX⟩;have N_:=yS.trans (dX.mono yS.size);have G5:=aI.trans (N_.mono aI.size);replace pU:=pU.keep dX;have ou:=abh.out.keep dX;have G6:=N9.out.keep dX;replace k9:=k9.keep dX;have HWW:=Za (hB.trans (G5.mono hB.size));have HW0:=Za G5;clear i9 f9 z9 dX yS N_ G5 qO aI b_;cases wR:aY G with
    | false =>
     have HRN:=Za (show R=none by
      rw[<-BD.out.2];exact afc (by rw[Je.out,wR];rfl))
     clear wR ou G6 k9;obtain⟨iR,fR,zR⟩:=pU.cell;go_wp2;refine Zt (v:=.tuple #[.agg #[.int .i64 0,.slice none 0 0,.slice none 0 0,.slice none 0 0],.bool false]) (by simp[results,Tryz.results94,go_sem,iR,fR,zR]) rfl ?_;rw[HRN.out];exact⟨_,_,_,rfl,⟨mW.nil _ _,Ye _ _ _ _,Ye _ _ _ _⟩,iU HWW.out (by omega) _ _ _ _⟩
    | true =>
     have xB:=Za (show qm ns []=qm (ns.drop (k+1)) (G::gr)by rw[Je.out,ZE wR]);have QI:=Za (HMD.out wR);clear wR;obtain⟨i9,f9,z9⟩:=k9.cell;go_wp2_with (at_builtin;refine Y7 ?_)
     refine Za ?_;have gK:=aH w9 (.cells #[.int .i64 G.aB,.slice x1 G.ah.length y1,.slice x2 G.aj.length y2,.slice x3 G.ay.length y3] 33);refine afb rfl (.tmp 60) (.tmp 62) rfl (w.heap.size+1+1) (.slice (some ⟨g,0,none⟩) l0 cap) gJ rfl (ou.keep gK) w9.heap.size (G,.slice x1 G.ah.length y1,.slice x2 G.aj.length y2,.slice x3 G.ay.length y3) rfl (Bk.new _ _ _) (G6.keep gK) (by have:=HW0.out.size;have:=GY.out;simp;omega) (by have:=oC.out;have:=QH.out;simp at *;omega) ?_;intro v7 w7 r1 r2 r3;have dA:Below u0.heap.size u0 w7:=(HW0.out.trans (gK.mono HW0.out.size)).grown r2 (by have:=HW0.out.size;simp;omega) (λj hj=>by have:=(Zh ou.row j hj).1;have:=GY.out;omega);obtain⟨a7,c7,oQ⟩:=r1.shape;rw[Zk,ZT]at oQ;subst oQ;have HE:=Za (Zb r1 dA);clear r1 r2 r3 dA gK ou G6 k9 i9 f9 z9 pU;go_wp2;go_roundw
     case rel=>exact⟨k+1,HLK.out,by go_num,gJ++[(G,.slice x1 G.ah.length y1,.slice x2 G.aj.length y2,.slice x3 G.ay.length y3)],ty::tr,HE.out.1,by have:=oC.out;simp at *;omega,HE.out.2,D7.out,show NS _ _ from by simp only[ZK,Xg,Yx,Xq,Xp,YD];exact⟨QI.out,by rw[HR0.out];exact N8.out⟩,show _=_ from by rw[xB.out];simp only[ZK,Xg,Yx,Xq,Xp,YD];rw[HR0.out]⟩
     case measure=>simp[intOf];omega
   ·by_cases abj:n.kind=16
    ·have hjj:∃b a r y,tys=b::a::r/\og 16 a b=some y/\eX (bI []) (ns.drop (k+1)) (y::r)=some [x]:=by
      unfold eX at lI;rw[ZE (.inr abj)]at lI;split at lI
      ·split at lI
       ·rename_i b a r
        rw[abj]at lI;split at lI
        ·rename_i y hy
         exact⟨b,a,r,y,rfl,hy,lI⟩
        ·cases lI
       ·cases lI
      ·cases lI
     obtain⟨tb,ta,tr,ty,rfl,CP,N7⟩:=hjj;obtain⟨gs,kH⟩:∃gs,(xs.map Prod.fst).reverse=gs:=⟨_,rfl⟩
     have xW:=HM.out;rw[kH]at xW jF;obtain⟨gb,ga,gr,rfl⟩:∃gb ga gr,gs=gb::ga::gr:=by
      have:=xW.len;match gs,this with
      | [],h=>simp at h
      | [_],h=>simp at h
      | b::a::r,_=>exact⟨b,a,r,rfl⟩
     obtain⟨mb,ma,mr⟩:=xW;obtain⟨gJ,xa,xb,rfl,rfl,rfl,sJ⟩:=aki kH;rw[aiu abj]at jF;obtain⟨G,hG⟩:∃G,ql xa.1 xb.1=G:=⟨_,rfl⟩
     have QF:=λhg=>arS ma mb CP hg;have QG:=akk ma.ok mb.ok;obtain⟨g,cap,rfl,ED,wK,SA⟩:=hst.blk (by simp);obtain⟨ca,cb⟩:=hst.two;have hq:=(λu (hb:Below wr.heap.size wr u)=>arP xa xb u ((hst.rws xa (by simp)).keep hb).at ((hst.rws xb (by simp)).keep hb).at ma.ok mb.ok)
     rw[hG]at jF QF QG hq;have D7:=Za N7;have Je:=Za jF;have HMD:=Za QF;have N8:=Za mr;have HR0:=Za sJ;have jf:=Za QG;have oC:=Za Jd;have HQ:=Za hq;have HST:=Za hst;rw[Zk]at ED Jd ⊢;simp only[Yv,Y6]at ED Jd ⊢;obtain⟨l0,hl0⟩:∃l,gJ.length=l:=⟨_,rfl⟩
     rw[hl0]at ca cb ED Jd ⊢;have QH:=Za hl0;clear hl0 hst N7 jF CP ma mb mr sJ kH HM lI QF QG hq hG;obtain⟨a0,a1,a2,a3⟩:=ca;obtain⟨b0,b1,b2,b3⟩:=cb;have dQ:IntKind.i64.wrap ((l0:Int)+2-1)=(l0:Int)+1:=by rw[Z8 _ (by omega)];omega
     have hw2:IntKind.i64.wrap (l0:Int)=(l0:Int):=Z8 _ (by omega);have zL:(l0:Int)<(l0:Int)+2:=by omega
     have arU:(l0:Int)+1<(l0:Int)+2:=by omega
     go_wp2_with fail
     have dV:=aH wr (.cells #[.int .i64 16,.int .i64 n.value,.string n.name] 116);have fP:=aH (wr.alloc (.cells #[.int .i64 16,.int .i64 n.value,.string n.name] 116)) (.cells #[.int .i64 0,.slice none 0 0,.slice none 0 0,.slice none 0 0] 33);have hb2:=dV.trans (fP.mono dV.size);have k8:=Bk.new (wr.alloc (.cells #[.int .i64 16,.int .i64 n.value,.string n.name] 116)) 33 #[.int .i64 0,.slice none 0 0,.slice none 0 0,.slice none 0 0];simp only[Zn]at k8;clear dV fP;generalize((wr.alloc (.cells #[.int .i64 16,.int .i64 n.value,.string n.name] 116)).alloc (.cells #[.int .i64 0,.slice none 0 0,.slice none 0 0,.slice none 0 0] 33))=u2 at *;replace a0:=aK hb2 a0;replace a1:=aK hb2 a1;replace a2:=aK hb2 a2;replace a3:=aK hb2 a3;replace b0:=aK hb2 b0;replace b1:=aK hb2 b1;replace b2:=aK hb2 b2;replace b3:=aK hb2 b3;have arV:=cell_lt a0;have Bd:¬g=wr.heap.size+1:=by omega
     generalize yY:wr.heap.size+1=b8 at *;have Ut:=Za yY;have bd:∀{u:World},Below u2.drew.heap.size u2.drew u->Below wr.heap.size wr u:=λh=>hb2.trans (((Zl u2.heap.size u2).drew.trans (h.mono (by simp))).mono hb2.size);clear yY n0 n1 n2;refine h_ (C:=aC ((λj=>j=b8)) _) 4 [0,1,2,3,4,5,6,7,8,9,10] (by kernel_rfl) (by kernel_rfl) (aC.aJ _ _) (aC.refl _ _) ?_;iterate 9 (apply i_ rfl rfl rfl;(focus intro u hc' hf';(try simp only[Zo]at hc' hf');go_simp<;>rfl);intro K hK;go_simp;apply hK;clear hK K)
     refine fD rfl rfl rfl (aC.aJ _ _) (aC.refl _ _) 133 (λK hK=>?_);apply Zq;refine⟨λw' hw'=>?_,λwa bT bZ=>?_⟩;(focus go_simp;rfl);refine(HQ.out _ (bd bZ)).mono ?_;rintro e w4⟨x1,y1,x2,y2,x3,y3,rfl,hg4,hb4⟩;refine⟨_,rfl,hb4,λhx=>?_⟩;go_simp;apply hK;clear hK K;have wZ:=(bd bZ).trans (hb4.mono (bd bZ).size);refine jd rfl rfl rfl (aC.aJ _ _) hx (λK hK=>?_);intro w5 gu jT;have h24:Below u2.heap.size u2 w5:=(((Zl u2.heap.size u2).drew.trans (bZ.mono (by simp))).trans (hb4.mono (by have:=bZ.size;simpa using this))).trans (jT.mono (by have:=bZ.size;have:=hb4.size;simp at *;omega));have sS:=k8.keep h24;obtain⟨m0,m1,m2⟩:=sS.cell;have D8:=hg4.keep jT;refine⟨(((w5.setCell ⟨b8,0,none⟩ (.int .i64 G.aB)).setCell ⟨b8,1,none⟩ (.slice x1 G.ah.length y1)).setCell ⟨b8,2,none⟩ (.slice x2 G.aj.length y2)).setCell ⟨b8,3,none⟩ (.slice x3 G.ay.length y3),?_,⟨bF (bF (bF (bF gu (.inr rfl) _) (.inr rfl) _) (.inr rfl) _) (.inr rfl) _,by simp,λj hj _ _=>by
      have gV:¬(j=b8):=by intro hh;have:=k8.lt;simp only[Zo]at hj;omega
      rw[Zm _ _ _ _ (λh=>gV (by simpa using h)),Zm _ _ _ _ (λh=>gV (by simpa using h)),Zm _ _ _ _ (λh=>gV (by simpa using h)),Zm _ _ _ _ (λh=>gV (by simpa using h))]⟩,?_⟩
     ·go_simp
     go_simp;refine hK _ _ _ ?_;clear hK K;refine dR ?_;have sU:=Ut.out;have qW:wr.heap.size<=b8:=by omega
     have yS:Below wr.heap.size wr ((((w5.setCell ⟨b8,0,none⟩ (.int .i64 G.aB)).setCell ⟨b8,1,none⟩ (.slice x1 G.ah.length y1)).setCell ⟨b8,2,none⟩ (.slice x2 G.aj.length y2)).setCell ⟨b8,3,none⟩ (.slice x3 G.ay.length y3)):=iU (wZ.trans (jT.mono wZ.size)) qW _ _ _ _;have k9:Bk ((((w5.setCell ⟨b8,0,none⟩ (.int .i64 G.aB)).setCell ⟨b8,1,none⟩ (.slice x1 G.ah.length y1)).setCell ⟨b8,2,none⟩ (.slice x2 G.aj.length y2)).setCell ⟨b8,3,none⟩ (.slice x3 G.ay.length y3)) b8 33 #[.int .i64 G.aB,.slice x1 G.ah.length y1,.slice x2 G.aj.length y2,.slice x3 G.ay.length y3]:=(((sS.set 0 _).set 1 _).set 2 _).set 3 _;have hgo:=(((D8.mono (B':=w.heap.size+1+1) (by have:=GY.out;have:=(bd bZ).size;omega)).setB sS (by decide) (by decide) 0 (.int .i64 G.aB)).setB (sS.set 0 _) (by decide) (by decide) 1 (.slice x1 G.ah.length y1)).setB ((sS.set 0 _).set 1 _) (by decide) (by decide) 2 (.slice x2 G.aj.length y2);have N9:=Za (hgo.setB (((sS.set 0 _).set 1 _).set 2 _) (by decide) (by decide) 3 (.slice x3 G.ay.length y3));have ou:=(HST.out.keep yS).take;rw[QH.out]at ou;have abh:=Za ou;have pU:=qO.keep yS;clear sS m0 m1 m2 D8 hg4 hb4 gu jT h24 hx bT bZ wZ a0 a1 a2 a3 b0 b1 b2 b3 hgo ou hb2 k8 bd;generalize((((w5.setCell ⟨b8,0,none⟩ (.int .i64 G.aB)).setCell ⟨b8,1,none⟩ (.slice x1 G.ah.length y1)).setCell ⟨b8,2,none⟩ (.slice x2 G.aj.length y2)).setCell ⟨b8,3,none⟩ (.slice x3 G.ay.length y3))=W at *;obtain⟨i9,f9,z9⟩:=k9.cell;have e6:0<=(l0:Int)/\(l0:Int)<=(cap:Int):=by omega
     go_wp2_with fail
     refine(aan _ _ _ G W N9.out.at jf.out).mono ?_;rintro e w9⟨rfl,dX⟩;have N_:=yS.trans (dX.mono yS.size);have G5:=aI.trans (N_.mono aI.size);replace pU:=pU.keep dX;have ou:=abh.out.keep dX;have G6:=N9.out.keep dX;replace k9:=k9.keep dX;have HWW:=Za (hB.trans (G5.mono hB.size));have HW0:=Za G5;clear i9 f9 z9 dX yS N_ G5 qO aI b_;cases wR:aY G with
     | false =>
      have HRN:=Za (show R=none by
       rw[<-BD.out.2];exact afc (by rw[Je.out,wR];rfl))
      clear wR ou G6 k9;obtain⟨iR,fR,zR⟩:=pU.cell;go_wp2;refine Zt (v:=.tuple #[.agg #[.int .i64 0,.slice none 0 0,.slice none 0 0,.slice none 0 0],.bool false]) (by simp[results,Tryz.results94,go_sem,iR,fR,zR]) rfl ?_;rw[HRN.out];exact⟨_,_,_,rfl,⟨mW.nil _ _,Ye _ _ _ _,Ye _ _ _ _⟩,iU HWW.out (by omega) _ _ _ _⟩
     | true =>
      have xB:=Za (show qm ns []=qm (ns.drop (k+1)) (G::gr)by rw[Je.out,ZE wR]);have QI:=Za (HMD.out wR);clear wR;obtain⟨i9,f9,z9⟩:=k9.cell;go_wp2_with (at_builtin;refine Y7 ?_)
      refine Za ?_;have gK:=aH w9 (.cells #[.int .i64 G.aB,.slice x1 G.ah.length y1,.slice x2 G.aj.length y2,.slice x3 G.ay.length y3] 33);refine afb rfl (.tmp 60) (.tmp 62) rfl (w.heap.size+1+1) (.slice (some ⟨g,0,none⟩) l0 cap) gJ rfl (ou.keep gK) w9.heap.size (G,.slice x1 G.ah.length y1,.slice x2 G.aj.length y2,.slice x3 G.ay.length y3) rfl (Bk.new _ _ _) (G6.keep gK) (by have:=HW0.out.size;have:=GY.out;simp;omega) (by have:=oC.out;have:=QH.out;simp at *;omega) ?_;intro v7 w7 r1 r2 r3;have dA:Below u0.heap.size u0 w7:=(HW0.out.trans (gK.mono HW0.out.size)).grown r2 (by have:=HW0.out.size;simp;omega) (λj hj=>by have:=(Zh ou.row j hj).1;have:=GY.out;omega);obtain⟨a7,c7,oQ⟩:=r1.shape;rw[Zk,ZT]at oQ;subst oQ;have HE:=Za (Zb r1 dA);clear r1 r2 r3 dA gK ou G6 k9 i9 f9 z9 pU;go_wp2;go_roundw
      case rel=>exact⟨k+1,HLK.out,by go_num,gJ++[(G,.slice x1 G.ah.length y1,.slice x2 G.aj.length y2,.slice x3 G.ay.length y3)],ty::tr,HE.out.1,by have:=oC.out;simp at *;omega,HE.out.2,D7.out,show NS _ _ from by simp only[ZK,Xg,Yx,Xq,Xp,YD];exact⟨QI.out,by rw[HR0.out];exact N8.out⟩,show _=_ from by rw[xB.out];simp only[ZK,Xg,Yx,Xq,Xp,YD];rw[HR0.out]⟩
      case measure=>simp[intOf];omega
    ·have mX:¬(n.kind=15\/n.kind=16):=λh=>h.elim mQ abj;obtain⟨ty,rC,N7⟩:∃y,bI [] n=some y/\eX (bI []) (ns.drop (k+1)) (y::tys)=some [x]:=by
      unfold eX at lI;rw[ZH mX]at lI;split at lI
      ·rename_i y hy;exact⟨y,hy,lI⟩
      ·cases lI
     obtain⟨qh,KQ⟩:=acH rC;rw[aiv mX]at jF;obtain⟨iH,hl2,Ld⟩:=aeG qh;have hlq:=λu=>(aqj n u qh).mono (R':=Ad (vM n) u) λ_ _ h=>h.mq;obtain⟨G,hG⟩:∃G,vM n=G:=⟨_,rfl⟩
     rw[hG]at jF iH hl2 Ld hlq;have HLQ:=Za hlq;have Je:=Za jF;have D7:=Za N7;have HMD:=Za (λ(_:aY G=true)=>show IL G ty from⟨iH,by rw[hl2,KQ],by rw[Ld,KQ]⟩);have jf:=Za (arT iH);have N8:=HM;obtain⟨gJ,J_⟩:∃y,y=xs:=⟨_,rfl⟩
     rw[<-J_]at hst N8 Je Jd;obtain⟨gr,hgr⟩:∃gr,(gJ.map Prod.fst).reverse=gr:=⟨_,rfl⟩
     rw[hgr]at N8 Je;have HR0:=Za hgr;have oC:=Za Jd;have QH:Hid (gJ.length=gJ.length):=rfl;obtain⟨tr,htr⟩:∃t,t=tys:=⟨_,rfl⟩
     rw[<-htr]at D7 N8;obtain⟨sa,sc,rfl⟩:=hst.shape;have Gg:=Za hst;have awh:¬n.kind=15:=mQ;have awi:¬n.kind=16:=abj;clear hst hgr J_ htr hG hlq iH hl2 Ld KQ qh rC lI N7 jF HM mX;go_wp2_with fail
     have dV:=aH wr (.cells #[.int .i64 n.kind,.int .i64 n.value,.string n.name] 116);have fP:=aH (wr.alloc (.cells #[.int .i64 n.kind,.int .i64 n.value,.string n.name] 116)) (.cells #[.int .i64 0,.slice none 0 0,.slice none 0 0,.slice none 0 0] 33);have hb2:=dV.trans (fP.mono dV.size);have k8:=Bk.new (wr.alloc (.cells #[.int .i64 n.kind,.int .i64 n.value,.string n.name] 116)) 33 #[.int .i64 0,.slice none 0 0,.slice none 0 0,.slice none 0 0];simp only[Zn]at k8;clear dV fP;generalize((wr.alloc (.cells #[.int .i64 n.kind,.int .i64 n.value,.string n.name] 116)).alloc (.cells #[.int .i64 0,.slice none 0 0,.slice none 0 0,.slice none 0 0] 33))=u2 at *;generalize yY:wr.heap.size+1=b8 at *;have Ut:=Za yY;clear yY n0 n1 n2;refine(HLQ.out u2).mono ?_;rintro e w5⟨x1,y1,x2,y2,x3,y3,rfl,D8,bH⟩;have sS:=k8.keep bH;have sU:=Ut.out;have qW:wr.heap.size<=b8:=by omega
     have iV:=hb2.trans (bH.mono hb2.size);have yS:Below wr.heap.size wr ((((w5.setCell ⟨b8,0,none⟩ (.int .i64 G.aB)).setCell ⟨b8,1,none⟩ (.slice x1 G.ah.length y1)).setCell ⟨b8,2,none⟩ (.slice x2 G.aj.length y2)).setCell ⟨b8,3,none⟩ (.slice x3 G.ay.length y3)):=iU iV qW _ _ _ _;have k9:Bk ((((w5.setCell ⟨b8,0,none⟩ (.int .i64 G.aB)).setCell ⟨b8,1,none⟩ (.slice x1 G.ah.length y1)).setCell ⟨b8,2,none⟩ (.slice x2 G.aj.length y2)).setCell ⟨b8,3,none⟩ (.slice x3 G.ay.length y3)) b8 33 #[.int .i64 G.aB,.slice x1 G.ah.length y1,.slice x2 G.aj.length y2,.slice x3 G.ay.length y3]:=(((sS.set 0 _).set 1 _).set 2 _).set 3 _;have hgo:=(((D8.mono (B':=w.heap.size+1+1) (by have:=GY.out;have:=hb2.size;omega)).setB sS (by decide) (by decide) 0 (.int .i64 G.aB)).setB (sS.set 0 _) (by decide) (by decide) 1 (.slice x1 G.ah.length y1)).setB ((sS.set 0 _).set 1 _) (by decide) (by decide) 2 (.slice x2 G.aj.length y2);have N9:=Za (hgo.setB (((sS.set 0 _).set 1 _).set 2 _) (by decide) (by decide) 3 (.slice x3 G.ay.length y3));have abh:=Za (Gg.out.keep yS);have pU:=qO.keep yS;obtain⟨i8,f8,z8⟩:=sS.cell;clear D8 bH hb2 k8 sS hgo;go_wp2_with fail
     generalize((((w5.setCell ⟨b8,0,none⟩ (.int .i64 G.aB)).setCell ⟨b8,1,none⟩ (.slice x1 G.ah.length y1)).setCell ⟨b8,2,none⟩ (.slice x2 G.aj.length y2)).setCell ⟨b8,3,none⟩ (.slice x3 G.ay.length y3))=W at *;clear i8 f8 z8 iV;have i9:=0;have f9:=0;have z9:=0;refine(aan _ _ _ G W N9.out.at jf.out).mono ?_;rintro e w9⟨rfl,dX⟩;have N_:=yS.trans (dX.mono yS.size);have G5:=aI.trans (N_.mono aI.size);replace pU:=pU.keep dX;have ou:=abh.out.keep dX;have G6:=N9.out.keep dX;replace k9:=k9.keep dX;have HWW:=Za (hB.trans (G5.mono hB.size));have HW0:=Za G5;clear i9 f9 z9 dX yS N_ G5 qO aI b_;cases wR:aY G with
     | false =>
      have HRN:=Za (show R=none by
       rw[<-BD.out.2];exact afc (by rw[Je.out,wR];rfl))
      clear wR ou G6 k9;obtain⟨iR,fR,zR⟩:=pU.cell;go_wp2;refine Zt (v:=.tuple #[.agg #[.int .i64 0,.slice none 0 0,.slice none 0 0,.slice none 0 0],.bool false]) (by simp[results,Tryz.results94,go_sem,iR,fR,zR]) rfl ?_;rw[HRN.out];exact⟨_,_,_,rfl,⟨mW.nil _ _,Ye _ _ _ _,Ye _ _ _ _⟩,iU HWW.out (by omega) _ _ _ _⟩
     | true =>
      have xB:=Za (show qm ns []=qm (ns.drop (k+1)) (G::gr)by rw[Je.out,ZE wR]);have QI:=Za (HMD.out wR);clear wR;obtain⟨i9,f9,z9⟩:=k9.cell;go_wp2_with (at_builtin;refine Y7 ?_)
      refine Za ?_;have gK:=aH w9 (.cells #[.int .i64 G.aB,.slice x1 G.ah.length y1,.slice x2 G.aj.length y2,.slice x3 G.ay.length y3] 33);refine afb rfl (.tmp 60) (.tmp 62) rfl (w.heap.size+1+1) (.slice sa gJ.length sc) gJ rfl (ou.keep gK) w9.heap.size (G,.slice x1 G.ah.length y1,.slice x2 G.aj.length y2,.slice x3 G.ay.length y3) rfl (Bk.new _ _ _) (G6.keep gK) (by have:=HW0.out.size;have:=GY.out;simp;omega) (by have:=oC.out;have:=QH.out;simp at *;omega) ?_;intro v7 w7 r1 r2 r3;have dA:Below u0.heap.size u0 w7:=(HW0.out.trans (gK.mono HW0.out.size)).grown r2 (by have:=HW0.out.size;simp;omega) (λj hj=>by have:=(Zh ou.row j hj).1;have:=GY.out;omega);obtain⟨a7,c7,oQ⟩:=r1.shape;rw[Zk,ZT]at oQ;subst oQ;have HE:=Za (Zb r1 dA);clear r1 r2 r3 dA gK ou G6 k9 i9 f9 z9 pU;go_wp2;go_roundw
      case rel=>exact⟨k+1,HLK.out,by go_num,gJ++[(G,.slice x1 G.ah.length y1,.slice x2 G.aj.length y2,.slice x3 G.ay.length y3)],ty::tr,HE.out.1,by have:=oC.out;simp at *;omega,HE.out.2,D7.out,show NS _ _ from by simp only[ZK,Xg,Yx,Xq,Xp,YD];exact⟨QI.out,by rw[HR0.out];exact N8.out⟩,show _=_ from by rw[xB.out];simp only[ZK,Xg,Yx,Xq,Xp,YD];rw[HR0.out]⟩
      case measure=>simp[intOf];omega
  ·obtain rfl:k=ns.length:=by omega
   have lI:=HT.out;have jF:=HGG.out;have xW:=HM.out;rw[WJ]at lI jF;simp only[eX,ZQ]at lI;subst lI;obtain⟨gs,kH⟩:∃gs,(xs.map Prod.fst).reverse=gs:=⟨_,rfl⟩
   rw[kH]at xW jF;obtain⟨g0,rfl⟩:∃g0,gs=[g0]:=by
    have:=xW.len;match gs,this with
    | [],h=>simp at h
    | [g],_=>exact⟨g,rfl⟩
    | _::_::_,h=>simp at h
   obtain⟨y,rfl,hy⟩:∃y,xs=[y]/\y.1=g0:=by
    rw[<-VD]at kH;have h2:=congrArg List.length kH;simp only[ZG,List.length_reverse,ZT]at h2;match xs,h2 with
    | [y],_=>exact⟨y,rfl,by simpa using kH⟩
   have HRS:=Za (show R=some g0 by
    rw[<-BD.out.2];exact aqO (by rw[jF];rfl))
   obtain⟨g,cap,rfl,ED,wK,SA⟩:=hst.blk (by simp);obtain⟨a0,a1,a2,a3⟩:=hst.cells 0 (by simp);simp only[WP,WL,Yp]at a0 a1 a2 a3;have hgo:=hst.rws y (by simp);obtain⟨G,ve,vi,vo⟩:=y;obtain rfl:G=g0:=hy;dsimp only at a0 a1 a2 a3 hgo;obtain⟨⟨x1,y1,rfl⟩,⟨x2,y2,rfl⟩,x3,y3,rfl⟩:=hgo.at.slices;have b_:=hB.trans (aI.mono hB.size);have qO:=kR.keep aI;obtain⟨iR,fR,zR⟩:=qO.cell;have HG:=Za hgo;have hne:¬g=w.heap.size+1:=by omega
   clear hst hgo kH xW jF HT HM HGG aI;simp only[ZT]at ED ⊢;go_wp2;refine Zt (v:=.tuple #[.agg #[.int .i64 G.aB,.slice x1 G.ah.length y1,.slice x2 G.aj.length y2,.slice x3 G.ay.length y3],.bool true]) (by simp[results,Tryz.results94,go_sem,iR,fR,zR]) rfl ?_;rw[HRS.out];exact⟨_,_,_,rfl,(HG.out.res (by omega) _ _ _ _).mono (by omega),iU b_ (by omega) _ _ _ _⟩
end Go.Proofs.YtkhpobekconobaaGreat
