import Derived.Test.YtkhpobekconobaaGreatHAP
set_option linter.all false
set_option maxRecDepth 100000
set_option maxHeartbeats 0
namespace Go.Proofs.YtkhpobekconobaaGreat
open Go.RowKit
structure TP (w wr:World) (bA C D:Nat) (cnt:Int) (vi vo:Value) (li lo:List Int) (L:List aO) (a:Option Addr) (n c:Nat) (xs:List fF):Prop where
 blk:Bk wr bA 33 #[.int .i64 cnt,.slice a n c,vi,vo]
 row:mO wr D (.slice a n c) xs
 len:n=xs.length
 fst:xs.map Prod.fst=L
 inn:Rw wr w.heap.size vi li
 out:Rw wr C vo lo
 bel:Below w.heap.size w wr
 lo:w.heap.size<=bA
 sz:D<=wr.heap.size
theorem TP.keep {w wr w':World} {bA C D:Nat} {cnt:Int} {vi vo:Value} {li lo:List Int} {L:List aO} {a:Option Addr} {n c:Nat} {xs:List fF} (h:TP w wr bA C D cnt vi vo li lo L a n c xs) (hb:Below wr.heap.size wr w'):TP w w' bA C D cnt vi vo li lo L a n c xs :=
 ⟨h.blk.keep hb,h.row.keep hb,h.len,h.fst,h.inn.keep hb,h.out.keep hb,h.bel.trans (hb.mono h.bel.size),h.lo,ZI h.sz hb.size⟩
theorem ai1 (g:aF) (ve vi vo vt:Value) (tz:List Int) (cnt:Int) (w:World) (hR:dM w ve vi vo g) (aP:Tf g) (ht:aU w vt tz) (Em:tz.length<=1000) (bV:Po tz g.places) :
  Calls Tryz.prog 142 #[.agg #[.int .i64 g.aB,ve,vi,vo],.int .i64 cnt,vt] w (aem (mZ g cnt tz) w):=by
 obtain⟨⟨ae,ce,rfl⟩,⟨ai,ci,rfl⟩,ao,co,rfl⟩:=hR.slices;obtain⟨pt,ct,rfl⟩:=ht.slice;have DL:=λ(u:World) (hu:Below w.heap.size w u) (v:Value) (l:List Int) (hv:aU u v l) (hl:Po tz l) (hn:l.length<=1000)=>(MX _ v tz l u (ht.keep hu) hv hl (by omega) (by omega)).mono (R':=DJ (aG tz l) u) λ_ _ h=>h.q;obtain⟨zk,rH,AY⟩:=aaA (g:=g);have lK:=Za bV;have HP:=Za (Zb zk (Zb rH AY));have jf:=Za aP;have vG:=Za DL;clear DL zk rH AY bV;have aQ:=aH w (.cells #[.int .i64 g.aB,.slice ae g.ah.length ce,.slice ai g.aj.length ci,.slice ao g.ay.length co] 33);have aT:=aH (w.alloc (.cells #[.int .i64 g.aB,.slice ae g.ah.length ce,.slice ai g.aj.length ci,.slice ao g.ay.length co] 33)) (.cells #[.int .i64 0,.slice none 0 0,.slice none 0 0,.slice none 0 0] 33);have hB:=aQ.trans (aT.mono aQ.size);have kG:=(Bk.new w 33 #[.int .i64 g.aB,.slice ae g.ah.length ce,.slice ai g.aj.length ci,.slice ao g.ay.length co]).keep aT;have kR:=Bk.new (w.alloc (.cells #[.int .i64 g.aB,.slice ae g.ah.length ce,.slice ai g.aj.length ci,.slice ao g.ay.length co] 33)) 33 #[.int .i64 0,.slice none 0 0,.slice none 0 0,.slice none 0 0];simp only[Zn]at kR;clear aQ aT;go_enter Tryz.func142,Tryz.ntmps142;go_wp2_with fail
 generalize((w.alloc (.cells #[.int .i64 g.aB,.slice ae g.ah.length ce,.slice ai g.aj.length ci,.slice ao g.ay.length co] 33)).alloc (.cells #[.int .i64 0,.slice none 0 0,.slice none 0 0,.slice none 0 0] 33))=u0 at *;have HR1:=Za kR.lt;obtain⟨iG,-,zG⟩:=kG.cell;have g1:=iG 1;have g2:=iG 2;have g3:=iG 3;simp at g1 g2 g3;clear iG;have fH:∀{w':World},aC dD u0.drew w'->Below u0.heap.size u0 w':=λh=>(Zl u0.heap.size u0).drew.trans (h.toBelow.mono (by simp));refine h_ (C:=aC (dD) _) 4 [0,1,2,3,4,5,6,7,8,9,10,11] (by kernel_rfl) (by kernel_rfl) (aC.aJ _ _) (aC.refl _ _) ?_;iterate 4 (apply dh rfl rfl rfl;(focus intro u hc' hf';go_simp<;>rfl);intro K hK;go_simp;apply hK;clear hK K)
 refine fD rfl rfl rfl (aC.aJ _ _) (aC.refl _ _) 162 (λK hK=>?_);apply Zq;refine⟨λw' hw'=>?_,λwa bT bZ=>?_⟩;(focus go_simp;rfl);refine(vG.out _ (hB.trans ((fH bT).mono hB.size)) _ g.aj (hR.inn.keep (hB.trans ((fH bT).mono hB.size))) (λk hk=>lK.out k (HP.out.1 k hk)) jf.out.inn).mono ?_;rintro e w3⟨a3,c3,rfl,hr3,hb3⟩;refine⟨_,rfl,hb3,λhx=>?_⟩;go_simp;apply hK;clear hK K;iterate 3 (apply dh rfl rfl rfl;(focus intro u hc' hf';go_simp<;>rfl);intro K hK;go_simp;apply hK;clear hK K)
 refine fD rfl rfl rfl (aC.aJ _ _) (hx) 162 (λK hK=>?_);apply Zq;refine⟨λw' hw'=>?_,λwb dJ dH=>?_⟩;(focus go_simp;rfl);refine(vG.out _ (hB.trans ((fH dJ).mono hB.size)) _ g.ay (hR.out.keep (hB.trans ((fH dJ).mono hB.size))) (λk hk=>lK.out k (HP.out.2.1 k hk)) jf.out.out).mono ?_;rintro e w4⟨a4,c4,rfl,hr4,hb4⟩;refine⟨_,rfl,hb4,λhx=>?_⟩;go_simp;apply hK;clear hK K;iterate 1 (apply dh rfl rfl rfl;(focus intro u hc' hf';go_simp<;>rfl);intro K hK;go_simp;apply hK;clear hK K)
 refine ku rfl rfl rfl (aC.aJ _ _) hx (λb=>.pointer (some ⟨b,0,none⟩)) (λK hK=>?_);apply Zq;refine⟨λw' hw'=>?_,λbA w7 f_ dA aW hNb d_=>?_⟩
 ·go_simp;rfl
 go_simp;refine hK _ _ _ ?_;clear hK K;refine jd rfl rfl rfl (aC.aJ _ _) f_ (λK hK=>?_);intro w8 dY bJ;have kO:Bk w8 bA 33 #[.int .i64 0,.slice none 0 0,.slice none 0 0,.slice none 0 0]:=(bJ.block bA (made_cell aW).2.2).trans aW;obtain⟨m0,m1,m2⟩:=kO.cell;refine⟨(((w8.setCell ⟨bA,0,none⟩ (.int .i64 cnt)).setCell ⟨bA,1,none⟩ (.slice none 0 0)).setCell ⟨bA,2,none⟩ (.slice a3 (aG tz g.aj).length c3)).setCell ⟨bA,3,none⟩ (.slice a4 (aG tz g.ay).length c4),?_,⟨bF (bF (bF (bF dY (.inl hNb) _) (.inl hNb) _) (.inl hNb) _) (.inl hNb) _,by simp,λj _ hj _=>by rw[Zm _ _ _ _ (λh=>hj (by simp[h])),Zm _ _ _ _ (λh=>hj (by simp[h])),Zm _ _ _ _ (λh=>hj (by simp[h])),Zm _ _ _ _ (λh=>hj (by simp[h]))]⟩,?_⟩
 ·go_simp
 go_simp;refine hK _ _ _ ?_;clear hK K;refine dR ?_;have qF:u0.heap.size<=bA:=by simpa using hNb
 have Nq:w.heap.size<=u0.heap.size:=hB.size;have Nr:=bJ.size;obtain⟨C,D,hC,hD,hst,aaB⟩:∃C D,u0.heap.size<=C/\C<=D/\TP u0 ((((w8.setCell ⟨bA,0,none⟩ (.int .i64 cnt)).setCell ⟨bA,1,none⟩ (.slice none 0 0)).setCell ⟨bA,2,none⟩ (.slice a3 (aG tz g.aj).length c3)).setCell ⟨bA,3,none⟩ (.slice a4 (aG tz g.ay).length c4)) bA C D cnt (.slice a3 (aG tz g.aj).length c3) (.slice a4 (aG tz g.ay).length c4) (aG tz g.aj) (aG tz g.ay) [] none 0 0 []/\(∀j,(Value.slice a3 (aG tz g.aj).length c3).ownBlock=some j->j<C)/\∀j,(Value.slice a4 (aG tz g.ay).length c4).ownBlock=some j->j<D:=by
  have uG:Below w4.heap.size w4 w8:=dA.trans (bJ.mono dA.size);have vH:=hr4.keep uG;have jD:=(fH dJ).size;have hbz:=dH.size;have apA:=hb4.size;have aes:=uG.size;have tC:=(((hr3.keep dH).keep hb4).keep uG).mono (B':=u0.heap.size) (by have:=(fH bT).size;omega);have k1:=kO.set 0 (.int .i64 cnt);have k2:=k1.set 1 (.slice none 0 0);have k3:=k2.set 2 (.slice a3 (aG tz g.aj).length c3);have k4:=k3.set 3 (.slice a4 (aG tz g.ay).length c4);refine⟨wb.heap.size,w8.heap.size,jD,by omega,⟨k4,mO.nil _ _,rfl,rfl,?_,?_,?_,qF,by simp⟩,λj hj=>Yc (Zh hr3 j hj).2 hbz,λj hj=>Yc (Zh hr4 j hj).2 aes⟩
  ·exact eP (eP (eP (eP tC _ _ (cO tC kO (by decide))) _ _ (cO tC kO (by decide))) _ _ (cO tC kO (by decide))) _ _ (cO tC kO (by decide))
  ·exact eP (eP (eP (eP vH _ _ (cO vH kO (by decide))) _ _ (cO vH kO (by decide))) _ _ (cO vH kO (by decide))) _ _ (cO vH kO (by decide))
  ·exact((((fH dY).setCell qF _).setCell qF _).setCell qF _).setCell qF _
 have DN:=Za (Zb hC (Zb hD aaB));clear aaB;clear hx bT bZ dJ dH f_ dA aW hNb d_ dY bJ hr3 hr4 hb3 hb4 kO m0 m1 m2 g1 g2 g3 zG fH Nr;generalize((((w8.setCell ⟨bA,0,none⟩ (.int .i64 cnt)).setCell ⟨bA,1,none⟩ (.slice none 0 0)).setCell ⟨bA,2,none⟩ (.slice a3 (aG tz g.aj).length c3)).setCell ⟨bA,3,none⟩ (.slice a4 (aG tz g.ay).length c4))=W at *;generalize(aG tz g.aj).length=ni at *;generalize(aG tz g.ay).length=no at *;replace kG:=kG.keep hst.bel;obtain⟨iG,-,zG⟩:=kG.cell;have g1:=iG 1;simp at g1;clear iG;go_wp2_with fail
 clear g1 zG kG;obtain⟨pe,JO,rV,hce,yj⟩:=hR.ed;simp only[Zx]at rV;obtain⟨rfl,-,rfl⟩:=rV;have Cb:=jf.out.ed;go_loopw [23] (λi wr=>∃k:Nat,k<=g.ah.length/\i=.int .i64 k/\∃a n c xs,TP u0 wr bA C D cnt (.slice a3 ni c3) (.slice a4 no c4) (aG tz g.aj) (aG tz g.ay) ((g.ah.take k).map (jm tz)) a n c xs) (λi _=>g.ah.length-(intOf i).toNat)
 case atStart=>exact⟨0,Zw _,rfl,none,0,0,[],hst⟩
 case round =>
  clear hst;obtain⟨k,hk,rfl,a,n,c,xs,hst⟩:=hrel;by_cases hlt:k<g.ah.length
  ·obtain⟨b,o,rfl,_,dI⟩:=yj k hlt;have dF:=hB.trans (hst.bel.mono hB.size);obtain⟨d0,d1,x1,x2,d2,d3,hi,ho⟩:=dI.keep dF;have yt:=HP.out.2.2 k hlt;have AZ:=jf.out.xO _ (Zp hlt);have A8:=take_one g.ah k hlt;obtain⟨e,he⟩:∃e,g.ah[k]=e:=⟨_,rfl⟩
   rw[he]at d0 d1 hi ho yt AZ A8;obtain⟨a1,q1,rfl⟩:=hi.slice;obtain⟨a2,q2,rfl⟩:=ho.slice;have bz:=cell_lt d0;have lC:xs.length=k:=by have:=congrArg List.length hst.fst;simp at this;omega
   have oC:=Za lC;have uH:=Za (Zb yt AZ);have HTI:=Za A8;have oP:=aH wr (.cells #[.int .i64 e.kind,.int .i64 e.value,.slice a1 e.aj.length q1,.slice a2 e.ay.length q2] 102);have kE:=Bk.new wr 102 #[.int .i64 e.kind,.int .i64 e.value,.slice a1 e.aj.length q1,.slice a2 e.ay.length q2];have dS:=hst.keep oP;have DR:=hst.len;have hb1:=dS.bel;replace hi:=hi.keep oP;replace ho:=ho.keep oP;clear yj dI he yt AZ A8 hst lC;go_wp2_with fail
   generalize(wr.alloc (.cells #[.int .i64 e.kind,.int .i64 e.value,.slice a1 e.aj.length q1,.slice a2 e.ay.length q2] 102))=u1 at *;clear d0 d1 d2 d3 bz oP;obtain⟨iE,-,zE⟩:=kE.cell;have e0:=iE 0;have e1:=iE 1;have e2:=iE 2;have e3:=iE 3;simp at e0 e1 e2 e3;obtain⟨iO,-,zO⟩:=dS.blk.cell;have o1:=iO 1;simp at o1;clear iE iO;generalize wr.heap.size=E at *;have rD:=hB.trans (hb1.mono hB.size);have gW:∀{w':World},aC dD u1.drew w'->Below u1.heap.size u1 w':=λh=>(Zl u1.heap.size u1).drew.trans (h.toBelow.mono (by simp));have HN:=Za DR;clear DR;refine yh (C:=aC (dD) _) 9 [0,1,2,3,4,5,6,7,8,9,10,11,12,13,14,15] [16,17,18] (by kernel_rfl) (by kernel_rfl) (aC.aJ _ _) (aC.refl _ _) ?_;iterate 9 (apply dh rfl rfl rfl;(focus intro u hc' hf';go_simp<;>rfl);intro K hK;go_simp;apply hK;clear hK K)
   refine fD rfl rfl rfl (aC.aJ _ _) (aC.refl _ _) 162 (λK hK=>?_);apply Zq;refine⟨λw' hw'=>?_,λwa bT bZ=>?_⟩;(focus go_simp;rfl);refine(vG.out _ (rD.trans ((gW bT).mono rD.size)) _ e.aj (hi.keep (gW bT)) (λk hk=>lK.out k (uH.out.1.1 k hk)) uH.out.2.1).mono ?_;rintro e w3⟨a5,c5,rfl,jP,bH⟩;refine⟨_,rfl,bH,λhx=>?_⟩;go_simp;apply hK;clear hK K;iterate 3 (apply dh rfl rfl rfl;(focus intro u hc' hf';go_simp<;>rfl);intro K hK;go_simp;apply hK;clear hK K)
   refine fD rfl rfl rfl (aC.aJ _ _) (hx) 162 (λK hK=>?_);apply Zq;refine⟨λw' hw'=>?_,λwb dJ dH=>?_⟩;(focus go_simp;rfl);refine(vG.out _ (rD.trans ((gW dJ).mono rD.size)) _ e.ay (ho.keep (gW dJ)) (λk hk=>lK.out k (uH.out.1.2 k hk)) uH.out.2.2).mono ?_;rintro e w4⟨a6,c6,rfl,fQ,aV⟩;refine⟨_,rfl,aV,λhx=>?_⟩;go_simp;apply hK;clear hK K;iterate 1 (apply dh rfl rfl rfl;(focus intro u hc' hf';go_simp<;>rfl);intro K hK;go_simp;apply hK;clear hK K)
   refine ku rfl rfl rfl (aC.aJ _ _) (hx) (λb=>.slice (some ⟨b,0,none⟩) 1 1) (λK hK=>?_);apply Zq;refine⟨λw' hw'=>?_,λbb w5 gu jT aW hNb d_=>?_⟩
   ·obtain⟨hc',hf'⟩:=hw'.cell
    try simp only[Zo]at hc' hf'
    go_simp;rfl
   go_simp;refine hK _ _ _ ?_;clear hK K;refine dR ?_;have qG:Below u1.heap.size u1 w5:=gW gu;have aeu:=hb1.size;have acu:=qG.size;have hsz:=dS.sz;have ji:mO w5 D (.slice a n c) xs:=dS.row.keep qG;have tK:=dS.blk.keep qG;have aic:=tK.lt;have hia:=(gW bT).size;have hib:=(gW dJ).size;have Gf:=((((jP.keep dH).keep aV).keep jT).mono (B':=D) (by omega))
   have CV:=((fQ.keep jT).mono (B':=D) (by omega))
   have nS:zo w5 D [(jm tz e,.slice a5 (aG tz e.aj).length c5,.slice a6 (aG tz e.ay).length c6)]:=λy hy=>by
    obtain rfl:=ZS.1 hy;exact⟨Gf,CV⟩
   have Pq:xs.length+1<=100000:=by have:=oC.out;omega
   refine⟨aC (λj=>j=bA\/(Value.slice a n c).ownBlock=some j) w5,w5.heap.size,aC.aJ _ _,aC.refl _ _,?_⟩;refine aco rfl rfl rfl (aC.refl _ _) (.tmp 28) (.tmp 42) rfl D (.slice a n c) xs [(jm tz e,.slice a5 (aG tz e.aj).length c5,.slice a6 (aG tz e.ay).length c6)] bb 1 1 rfl rfl rfl (λj hj=>.inl ⟨(Zh ji.row j hj).2,.inr hj⟩) (by omega) Pq ji nS (by simpa[nK,jm]using aW) ?_;intro K hK w6 w7 v7 jk jQ dL hgr f_ yu;obtain⟨a7,c7,oQ⟩:=dL.shape;rw[Zk,ZT]at oQ;subst oQ;go_simp;refine hK _ _ _ ?_;clear hK K;iterate 1 (apply i_ rfl rfl rfl;(focus intro u hc' hf';(try simp only[Zo]at hc' hf');go_simp<;>rfl);intro K hK;go_simp;apply hK;clear hK K)
   refine jd rfl rfl rfl (aC.aJ _ _) f_ (λK hK=>?_);intro w8 dY jY;have zH:Bk w8 bA 33 #[.int .i64 cnt,.slice a n c,.slice a3 ni c3,.slice a4 no c4]:=((tK.keep jQ).grown hgr (cO ji.row tK (by decide))).keep jY;obtain⟨m0,m1,m2⟩:=zH.cell;refine⟨w8.setCell ⟨bA,1,none⟩ (.slice a7 (xs.length+1) c7),?_,⟨bF dY (.inr (.inl rfl)) _,by simp,λj hN _ _=>by rw[Zm _ _ _ _ (λh=>by simp at h;omega)]⟩,?_⟩
   ·go_simp
   go_simp;refine hK _ _ _ ?_;clear hK K;refine dR ?_;have aaC:=dL.keep jY;have Pv:Below u0.heap.size w5 w7:=((Zl _ _).trans (jQ.mono (by omega))).grown hgr (by have:=jQ.size;omega) (λj hj=>ZI (ZI DN.out.1 DN.out.2.1) (Zh ji.row j hj).1);have aev:=Pv.size;have aew:=jY.size;have Px:Below u0.heap.size u0 w7:=(hb1.trans (qG.mono aeu)).trans Pv;have mv:∀(B':Nat) (u:Value) zs,Rw u1 B' u zs->Rw (w8.setCell ⟨bA,1,none⟩ (.slice a7 (xs.length+1) c7)) B' u zs:=λB' u zs hu=>by
    have h5:=hu.keep qG;have h8:=((h5.keep jQ).grown hgr (λk hk e=>wC h5 ji.row (by decide) k hk e)).keep jY;exact eP h8 _ _ (cO h8 zH (by decide))
   have Ns:TP u0 (w8.setCell ⟨bA,1,none⟩ (.slice a7 (xs.length+1) c7)) bA C D cnt (.slice a3 ni c3) (.slice a4 no c4) (aG tz g.aj) (aG tz g.ay) ((g.ah.take (k+1)).map (jm tz)) a7 (xs.length+1) c7 (xs++[(jm tz e,.slice a5 (aG tz e.aj).length c5,.slice a6 (aG tz e.ay).length c6)]) :=
    ⟨zH.set 1 _,aaC.setB zH (by decide) (by decide) 1 _,by simp,by rw[ZK,dS.fst,HTI.out,ZK];rfl,mv _ _ _ dS.inn,mv _ _ _ dS.out,(Px.trans (jY.mono (by have:=Px.size;omega))).setCell dS.lo _,dS.lo,by simp;omega⟩
   have HST:=Za Ns;clear Ns mv Px Pv aev aew hsz aaC zH m0 m1 m2 dY jY hgr f_ yu dL jk jQ nS Gf CV ji tK aW hNb d_ gu jT hx bT bZ dJ dH jP fQ bH aV gW e0 e1 e2 e3 o1 kE zE zO hi ho dS;go_wp2;go_roundw
   case rel=>exact⟨k+1,by omega,by go_num,a7,_,c7,_,HST.out⟩
   case measure=>simp[intOf];omega
  ·obtain rfl:k=g.ah.length:=by omega
   rw[ZY]at hst;have oD:=hst.fst;have dL:=hst.row.o;rw[oD]at dL;have hG:AX wr u0.heap.size (.slice a n c) (.slice a3 ni c3) (.slice a4 no c4) (mZ g cnt tz):=⟨C,D,DN.out.1,DN.out.2.1,dL,hst.inn,hst.out,DN.out.2.2.1,DN.out.2.2.2,hst.sz⟩
   have b_:=hB.trans (hst.bel.mono hB.size);replace kR:=kR.keep hst.bel;obtain⟨iR,fR,zR⟩:=kR.cell;obtain⟨iO,-,zO⟩:=hst.blk.cell;have eU:w.heap.size+1<u0.heap.size:=HR1.out;have HG:=Za hG;clear yj oD dL hG hst;go_wp2;refine Zt (v:=.agg #[.int .i64 cnt,.slice a n c,.slice a3 ni c3,.slice a4 no c4]) (by simp[results,Tryz.results142,go_sem,iR]) rfl ⟨_,_,_,rfl,?_,?_⟩
   ·exact(((((HG.out).low (a:=⟨w.heap.size+1,0,none⟩) eU _).low (a:=⟨w.heap.size+1,1,none⟩) eU _).low (a:=⟨w.heap.size+1,2,none⟩) eU _).low (a:=⟨w.heap.size+1,3,none⟩) eU _).mono hB.size
   ·exact(((b_.setCell (by simp) _).setCell (by simp) _).setCell (by simp) _).setCell (by simp) _
def ai2 (w:World) (v:Value) (ps:List (Nat×Nat)):Prop:=nD 2 v ps.length λi b o=>∃h:i<ps.length,w.cell? ⟨b,o,none⟩=some (.int .i64 ((ps[i].1:Nat):Int))/\w.cell? ⟨b,o+1,none⟩=some (.int .i64 ((ps[i].2:Nat):Int))
def aqz (g:aF) (tz:List Int) (w:World) (e:Ending) (w':World):Prop:=∃ve vi vo vt,e=.returned (.agg #[.int .i64 g.aB,ve,vi,vo,vt])/\dB w' w.heap.size ve vi vo g/\Rw w' w.heap.size vt tz/\Below w.heap.size w w'
structure TQ (u0 wr:World) (bC W:Nat) (vc:Value) (ps:List (Nat×Nat)) (j:Nat) (c:List Nat):Prop where
 bel:Below u0.heap.size u0 wr
 cls:ae0 c (yw W ps j)
 len:c.length=W
 row:Rw wr u0.heap.size vc (nI c)
 box:Bk wr bC 230 #[vc]
theorem TQ.keep {u0 wr w':World} {bC W:Nat} {vc:Value} {ps:List (Nat×Nat)} {j:Nat} {c:List Nat} (h:TQ u0 wr bC W vc ps j c) (hb:Below wr.heap.size wr w'):TQ u0 w' bC W vc ps j c :=
 ⟨h.bel.trans (hb.mono h.bel.size),h.cls,h.len,h.row.keep hb,h.box.keep hb⟩
theorem ai3 (W:Nat) (E:List aO) (I O:List Int) (ve vi vo vp:Value) (ps:List (Nat×Nat)) (w:World) (hR:dM w ve vi vo ⟨W,E,I,O⟩) (hA:Bg ⟨W,E,I,O⟩ W)
  (hv:ai2 w vp ps) (hp:∀p∈ps,p.1<W/\p.2<W) (hl:ps.length<=1000) :
  Calls Tryz.prog 164 #[.agg #[.int .i64 W,ve,vi,vo],vp] w (aqz (tV ⟨W,E,I,O⟩ W ps) (kY ⟨W,E,I,O⟩ W ps) w):=by
 obtain⟨ae,ce,rfl⟩:=hR.ed.slice;obtain⟨ai,ci,rfl⟩:=hR.inn.slice;obtain⟨ao,co,rfl⟩:=hR.out.slice;obtain⟨pa,ca,rfl,hca,hat⟩:=hv;have HAT:=Za hat
 clear hat
 dsimp only at hR ⊢;have aeV:=hA.le;have aQ:=aH w (.cells #[.int .i64 W,.slice ae E.length ce,.slice ai I.length ci,.slice ao O.length co] 33);have aT:=aH (w.alloc (.cells #[.int .i64 W,.slice ae E.length ce,.slice ai I.length ci,.slice ao O.length co] 33)) (.cells #[.int .i64 0,.slice none 0 0,.slice none 0 0,.slice none 0 0,.slice none 0 0] 214);have hB:=aQ.trans (aT.mono aQ.size);have kG:=(Bk.new w 33 #[.int .i64 W,.slice ae E.length ce,.slice ai I.length ci,.slice ao O.length co]).keep aT;have kR:=Bk.new (w.alloc (.cells #[.int .i64 W,.slice ae E.length ce,.slice ai I.length ci,.slice ao O.length co] 33)) 214 #[.int .i64 0,.slice none 0 0,.slice none 0 0,.slice none 0 0,.slice none 0 0];simp only[Zn]at kR;clear aQ aT;have rW:=Za hA;have HP:=Za hp;clear hA hp;go_enter Tryz.func164,Tryz.ntmps164;go_wp2_with fail
 generalize((w.alloc (.cells #[.int .i64 W,.slice ae E.length ce,.slice ai I.length ci,.slice ao O.length co] 33)).alloc (.cells #[.int .i64 0,.slice none 0 0,.slice none 0 0,.slice none 0 0,.slice none 0 0] 214))=u0 at *;refine(O1 W u0 (by omega)).mono ?_;rintro e u1⟨vc,rfl,hr1,hb1⟩;have kC:=Bk.new u1 230 #[vc];have dU:=aH u1 (.cells #[vc] 230);have Gg:TQ u0 (u1.alloc (.cells #[vc] 230)) u1.heap.size W vc ps 0 (wU W):=⟨hb1.trans (dU.mono hb1.size),by unfold yw;exact av5 W,by simp[wU],by rw[<-ail];exact hr1.keep dU,kC⟩
 have m_:=hb1.size;obtain⟨TR,TS,rfl⟩:=hr1.slice;rw[oh]at *;clear kC dU hr1 hb1;go_wp2_with fail
 generalize(u1.alloc (.cells #[.slice TR W TS] 230))=u2 at *;generalize u1.heap.size=bC at *;have HBC:=Za m_;clear m_;go_loopw [18] (λi wr=>∃j:Nat,j<=ps.length/\i=.int .i64 j/\∃c,TQ u0 wr bC W (.slice TR W TS) ps j c) (λi _=>ps.length-(intOf i).toNat)
 case atStart=>exact⟨0,Zw _,rfl,_,Gg⟩
 case round =>
  clear Gg;obtain⟨j,hj,rfl,c,hst⟩:=hrel;by_cases oW:j<ps.length
  ·obtain⟨bp,op,rfl,_,c0,c1⟩:=HAT.out j oW;have b_:=hB.trans (hst.bel.mono hB.size);replace c0:=aK b_ c0;replace c1:=aK b_ c1;obtain⟨x1,x2⟩:=HP.out _ (Zp oW);have hsu:=ain W ps j oW;obtain⟨⟨p,q⟩,F8⟩:∃e,ps[j]=e:=⟨_,rfl⟩
   rw[F8]at c0 c1 x1 x2 hsu;dsimp only at c0 c1 x1 x2 hsu;have z0:=cell_lt c0;obtain⟨iC,-,zC⟩:=hst.box.cell;have e0:=iC 0;simp at e0;have oP:=aH wr (.cells #[.int .i64 p,.int .i64 q] 212);have dS:=hst.keep oP;have IX:=Za hsu;have HPQ:=Za (Zb x1 x2);clear F8 hsu x1 x2 iC hst b_;go_wp2_with fail
   generalize(wr.alloc (.cells #[.int .i64 p,.int .i64 q] 212))=u3 at *;have B_:=cO dS.row dS.box (by decide);refine(aqv _ c (yw W ps j) p q u0.heap.size u3 dS.row dS.bel.size dS.cls (by rw[dS.len];exact HPQ.out.1) (by rw[dS.len];exact HPQ.out.2)).mono ?_;rintro e w4⟨rfl,hr4,hx4⟩;have dK:TQ u0 w4 bC W (.slice TR W TS) ps (j+1) (c.set (Nat.max ((yw W ps j).getD p 0) ((yw W ps j).getD q 0)) (Nat.min ((yw W ps j).getD p 0) ((yw W ps j).getD q 0))) :=
    ⟨hx4.an0 (λj hj=>(Zh dS.row j hj).1) dS.bel,by rw[IX.out];exact av6 dS.cls (by rw[dS.len];exact HPQ.out.1) (by rw[dS.len];exact HPQ.out.2),by rw[Yf];exact dS.len,hr4,dS.box.exc hx4 B_⟩
   have HST:=Za dK;clear dK dS hr4 hx4 B_ oP;go_wp2;go_roundw
   case rel=>exact⟨j+1,by omega,by go_num,_,HST.out⟩
   case measure=>simp[intOf];omega
  ·obtain rfl:j=ps.length:=by omega
   have b_:=hB.trans (hst.bel.mono hB.size);replace kG:=kG.keep hst.bel;replace kR:=kR.keep hst.bel;obtain⟨cl,Gl⟩:∃cl,A_ (wU W) ps=cl:=⟨_,rfl⟩
   have acU:=hst.cls;rw[show yw W ps ps.length=A_ (wU W) ps from by unfold yw;rw[ZY],Gl]at acU;obtain⟨iQ,mG⟩:=aio W ps HP.out;rw[Gl]at iQ mG;have wX:=Za (Zb iQ (Zb mG Gl));have hrow:=hst.row;have kC:=hst.box;have hlen:=hst.len;have HLEN:=Za hlen;have HZ0:=Za (Zb kR.lt hst.bel.size);clear iQ mG Gl hlen hst;obtain⟨iG,-,zG⟩:=kG.cell;have g0:=iG 0;simp at g0;clear iG;obtain⟨q0,Kw,yx,rQ,rX⟩:=Yg aal;go_wp2_with (at_make;refine Y7 ?_)
   refine Za ?_;refine Yo _ rfl _ _ _ rfl wr.heap.size 4 q0 _ 1 Tryz.underlying149 Kw yx rQ _ _ _ _ W rfl rfl rfl rfl (by rw[rX];omega) (by unfold maxLen;omega) (Zj _) ?_;intro w3 hown hgr;have hz:=vZ (f:=nN) false W (sz:=1) (by omega) rfl;have hb3:Below wr.heap.size wr w3:=(Zl _ _).grown hgr (Zj _) (by simp);obtain⟨sg,hsg⟩:∃n,wr.heap.size=n:=⟨_,rfl⟩
   have PZ:w3.ownsRow sg 4 1 (.slice (some ⟨sg,0,none⟩) W W) W ((mF W (CZ cl [])).flatMap nN):=by
    show w3.ownsRow sg 4 1 (.slice (some ⟨sg,0,none⟩) W W) W ((mF W []).flatMap nN);rw[SE,<-hz,<-hsg];exact hown
   have TN:=Za PZ;have dV:=aH w3 (.cells #[.slice (some ⟨sg,0,none⟩) W W] 149);have kU:=Bk.new w3 149 #[.slice (some ⟨sg,0,none⟩) W W];have Qb:=hb3.trans (dV.mono hb3.size);have KE:=Qb;have kC4:=(kC.keep hb3).keep dV;have DV:=(kG.keep hb3).keep dV;have KF:=(kR.keep hb3).keep dV;have dZ:=b_.trans (Qb.mono b_.size);have hrow4:=(hrow.keep hb3).keep dV;have hu4:=jL dV PZ;have hz3:=hb3.size;rw[hsg]at hz3 ⊢;have ai4:(Value.slice TR W TS).ownBlock≠some sg:=λe=>by have:=(Zh hrow sg e).2;omega
   have HVN:=Za (Zb ai4 (Zb kC.lt b_.size));have HSG:=Za (Zb (show sg<w3.heap.size from(Zh PZ sg (by simp[Value.ownBlock])).2) hsg);have kG3:=kG.keep hb3;clear ai4 hz hgr hown Kw yx rQ rX hb3 dV Qb kC hrow PZ g0 zG TN;obtain⟨iG,-,zG⟩:=kG3.cell;go_wp2_with fail
   generalize(w3.alloc (.cells #[.slice (some ⟨sg,0,none⟩) W W] 149))=w5 at *;clear iG zG kG3;have ai5:C9 wr w5 w3.heap.size bC sg (.slice TR W TS) W c (CZ cl []):=by
    obtain⟨h1,h1'⟩:=HSG.out;obtain⟨h2,h2',av7⟩:=HVN.out;obtain⟨h3,h3'⟩:=HZ0.out;exact⟨KE,by omega,⟨by omega,by omega⟩,h2,by simpa using kU.cell.1 0,by simpa using kC4.cell.1 0,hrow4.mono (by omega),FD (by omega) hu4⟩
   refine(aqy W _ _ _ ⟨W,E,I,O⟩ wr w5 _ _ _ W _ c cl (hR.keep b_) rW.out.ok.ok acU HLEN.out rW.out.rng ai5).mono ?_;rintro e w6⟨rfl,II⟩;clear ai5 KE hrow4 hu4 dZ;have aV:=II.bel;have acW:=b_.trans (aV.mono b_.size);have kG6:=kG.keep aV;have IY:=kR.keep aV;have P8:=aqw cl ⟨W,E,I,O⟩;obtain⟨us,ae4⟩:∃us,us=Gh ⟨W,E,I,O⟩ cl:=⟨_,rfl⟩
   rw[<-ae4]at P8;have ai6:=II.row;have HUS:=Za (show ∀u,Below w6.heap.size w6 u->∀r,r<W->u.cell? ⟨sg,r,none⟩=some (.bool (us r))from λu hu r hr=>by
    have:=mV Es (jL hu ai6) r 0 (by rw[AA];exact hr) (by omega);simp only[nN,Z2,YC,Zc,JM]at this;rw[this,P8])
   have ai7:=II.ae3;have HRT:=Za (λ(u:World) (hu:Below w6.heap.size w6 u) (x:Nat) (hx:x<W)=>acT (.slice TR W TS) c x (cl.getD x 0) u (ai7.keep hu).at (acU.rt x (by rw[HLEN.out];exact hx)));have aqA:=II.cc;have aqB:=II.us;have HUE:=Za ae4;clear P8 ae4 ai6 ai7 acU II kG kR kU kC4 DV KF;obtain⟨iG,-,zG⟩:=kG6.cell;have g0:=iG 0;simp at g0;clear iG;go_wp2_with fail
   refine(ab3 W w6 (by omega)).mono ?_;rintro e w7⟨vto,rfl,qL,dA⟩;obtain⟨a7,c7,rfl⟩:=qL.slice;rw[Yi]at *;have HR7:=Za qL;have SA:=acW.size;clear qL g0 zG;go_wp2_with fail
   go_loopw [10,40] (λn i wq=>∃t:Nat,t<=W/\n=.int .i64 (CW cl us t:Nat)/\i=.int .i64 t/\Rw wq w6.heap.size (.slice a7 W c7) ((oU cl us W).take t++(List.replicate W (0:Int)).drop t)/\Below w6.heap.size w6 wq) (λ_ i _=>W-(intOf i).toNat)
   case atStart=>exact⟨0,Zw _,rfl,rfl,by simpa using HR7.out,dA⟩
   case round =>
    clear HR7 dA;obtain⟨t,ht,rfl,rfl,hrow,aI⟩:=hrel;by_cases hlt:t<W
    ·obtain⟨g7,c',e,Ac,wK⟩:=hrow.block (by simp[uI];omega);simp only[Zx]at e;obtain⟨rfl,-,rfl⟩:=e;have d1:=aK aI aqA;have z1:=cell_lt d1;obtain⟨iQ,mG,hce⟩:=wX.out;have hle:=iQ.le t (by omega);have Kz:=aqp (cl:=cl) (us:=us) (w:=t);have zZ:=aqr (cl:=cl) (us:=us) (w:=t);have uM:=aeP (cl:=cl) (us:=us) (w:=t);have hno:=av8 (cl:=cl) (us:=us) (w:=t);have lD:=av9 (us:=us) iQ (w:=t) (by omega);have hnw:=awc (cl:=cl) (us:=us) (w:=t);have hrt:=HRT.out wr aI t hlt;have jS:=λ(u:World) (hu:Rw u w6.heap.size (.slice (some ⟨g7,0,none⟩) W c7) ((oU cl us W).take t++(List.replicate W (0:Int)).drop t))=>hu.fill (uI cl us W) (by simp) hlt;simp only[aaD,Z9]at jS;obtain⟨Z,hZ⟩:∃Z,cl.getD t 0=Z:=⟨_,rfl⟩
     rw[hZ]at hrt hle zZ uM hno lD hnw;obtain⟨k,hk⟩:∃k,CW cl us t=k:=⟨_,rfl⟩
     rw[hk]at Kz zZ uM hnw ⊢;have aqC:=Za hrt;have C_:=Za jS;have HN:=Za (Zb zZ (Zb uM (Zb hno (Zb lD hnw))));have Kv:=Za hrow;have hw:IntKind.i64.wrap ((k:Int)+1)=(k:Int)+1:=Z8 _ (by omega);clear hrt jS zZ uM hno lD hnw hZ iQ mG hce hrow hk;go_wp2_with fail
     refine aqC.out.mono ?_;rintro e w8⟨rfl,bJ⟩;have TT:=aI.trans (bJ.mono aI.size);have IZ:=Kv.out.keep bJ;have d2:=aK TT aqB;have z2:=cell_lt d2;have d3:=HUS.out w8 TT Z (by omega);have z3:=cell_lt d3;obtain⟨⟨d0,f0⟩,cZ⟩:=C_.out w8 IZ;have z0:=cell_lt d0;have HS:=Za (Zb cZ (λv=>YI (p:=⟨g7,t,none⟩) TT wK v));have acX:w8.ownsRow w6.heap.size 3 1 (.slice (some ⟨g7,0,none⟩) W c7) W (((oU cl us W).take t++(List.replicate W (0:Int)).drop t).flatMap gU):=by unfold Rw at IZ;rw[show((oU cl us W).take t++(List.replicate W (0:Int)).drop t).length=W by simp[uI];omega]at IZ;exact IZ
     cases hu:us Z with
     | false =>
      rw[hu]at d3;have hno:=HN.out.2.2.1 hu;have HE:=Za (Zb hno (HN.out.1 (λh=>by have:=h.1;subst this;rw[h.2]at hu;cases hu)));clear hu hno cZ IZ acX bJ TT d1 z1;go_wp2;go_roundw
      case rel=>exact⟨t+1,by omega,by rw[HE.out.2],by go_num,by rw[<-HE.out.1];exact HS.out.1,HS.out.2 _⟩
      case measure=>simp[intOf];omega
     | true =>
      rw[hu]at d3;by_cases SH:Z<t
      ·have e0:=mV sF acX Z 0 (by simp[uI];omega) (by omega);simp only[gU,Z2,YC,Zc]at e0;rw[Xx (by rw[ZJ,uI];omega),Ww,aaD,<-HN.out.2.2.2.1 hu]at e0;have HE:=Za (HN.out.1 (λh=>by have:=h.1;omega));clear hu cZ IZ acX bJ TT d1 z1;go_wp2;go_roundw
       case rel=>exact⟨t+1,by omega,by rw[HE.out],by go_num,HS.out.1,HS.out.2 _⟩
       case measure=>simp[intOf];omega
      ·obtain rfl:Z=t:=by omega
       have e9:=HN.out.2.2.2.2 hu rfl;have HE:=Za (Zb e9 (HN.out.2.1 rfl hu));clear hu e9 cZ IZ acX bJ TT d1 z1;go_wp2;go_roundw
       case rel=>exact⟨Z+1,by omega,by rw[HE.out.2];rfl,by go_num,by rw[<-HE.out.1];exact HS.out.1,HS.out.2 _⟩
       case measure=>simp[intOf];omega
    ·obtain rfl:t=W:=by omega
     have P9:=hrow.full (uI _ _ _) (by simp);have I4:=acW.trans (aI.mono acW.size);have kG:=kG6.keep aI;have kR:=IY.keep aI;have HC:=Za (ai1 ⟨(t:Int),E,I,O⟩ _ _ _ _ (oU cl us t) (CW cl us t:Nat) wr (hR.keep I4) rW.out.ok P9.at (by rw[uI];exact aeV) (λk hk=>by rw[uI];exact rW.out.rng k hk));have NJ:=Za P9;have HBL:=Za aI.size;clear hrow aI P9;obtain⟨iG,fG,zG⟩:=kG.cell;go_wp2_with fail
     refine HC.out.mono ?_;intro q w9 hq;replace hq:=hq.k;obtain⟨x1,y1',x2,y2',x3,y3,rfl,yA,dX⟩:=hq.q;clear hq HC;have aeZ:=I4.trans (dX.mono I4.size);have eU:=kR.lt;replace kR:=kR.keep dX;have HGo:=Za yA;have HVt:=Za (NJ.out.keep dX);clear iG fG zG yA kG;obtain⟨iR,fR,zR⟩:=kR.cell;have HEQ:=Za (show mZ ⟨(t:Int),E,I,O⟩ (CW cl us t:Nat) (oU cl us t)=tV ⟨(t:Int),E,I,O⟩ t ps/\oU cl us t=kY ⟨(t:Int),E,I,O⟩ t ps by
      have e1:=wX.out.2.2;have e2:=HUE.out;unfold tV glN kY;rw[e1,e2];exact⟨rfl,rfl⟩)
     generalize mZ ⟨(t:Int),E,I,O⟩ (CW cl us t:Nat) (oU cl us t)=G at *;generalize oU cl us t=T at *;obtain⟨gw,ge,gi,gq⟩:=G;dsimp only;go_wp2;refine Zt (v:=.agg #[.int .i64 gw,.slice x1 ge.length y1',.slice x2 gi.length y2',.slice x3 gq.length y3,.slice a7 t c7]) (by simp[results,Tryz.results164,go_sem,iR]) rfl ?_;rw[<-HEQ.out.1,<-HEQ.out.2];refine⟨_,_,_,_,rfl,?_,?_,?_⟩
     ·exact((((((HGo.out).low (a:=⟨w.heap.size+1,0,none⟩) eU _).low (a:=⟨w.heap.size+1,1,none⟩) eU _).low (a:=⟨w.heap.size+1,2,none⟩) eU _).low (a:=⟨w.heap.size+1,3,none⟩) eU _).low (a:=⟨w.heap.size+1,4,none⟩) eU _).mono I4.size
     ·have h0:Rw w9 w.heap.size (.slice a7 t c7) T:=HVt.out.mono acW.size;exact((((h0.setB kR (by decide) 0 _).setB (kR.set 0 _) (by decide) 1 _).setB ((kR.set 0 _).set 1 _) (by decide) 2 _).setB (((kR.set 0 _).set 1 _).set 2 _) (by decide) 3 _).setB ((((kR.set 0 _).set 1 _).set 2 _).set 3 _) (by decide) 4 _
     ·exact((((aeZ.setCell (by simp) _).setCell (by simp) _).setCell (by simp) _).setCell (by simp) _).setCell (by simp) _
end Go.Proofs.YtkhpobekconobaaGreat
