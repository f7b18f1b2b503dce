import Derived.Test.YtkhpobekconobaaGreatHAY
import Derived.Test.YtkhpobekconobaaGreatHAZ
set_option linter.all false
set_option maxRecDepth 100000
set_option maxHeartbeats 0
namespace Go.Proofs.YtkhpobekconobaaGreat
open Go.RowKit
theorem arW (W:Nat) (E:List aO) (I O:List Int) (ve vi vo va vb:Value) (ps:List (Nat×Nat)) (w:World) (hR:dM w ve vi vo ⟨W,E,I,O⟩) (hA:Bg ⟨W,E,I,O⟩ W)
  (ha:aU w va (nI (ps.map Prod.fst))) (hb:aU w vb (nI (ps.map Prod.snd))) (hp:∀p∈ps,p.1<W/\p.2<W) (hl:ps.length<=1000) :
  Calls Tryz.prog 148 #[.agg #[.int .i64 W,ve,vi,vo],va,vb] w (nZ (tV ⟨W,E,I,O⟩ W ps) w):=by
 obtain⟨ae,ce,rfl⟩:=hR.ed.slice;obtain⟨ai,ci,rfl⟩:=hR.inn.slice;obtain⟨ao,co,rfl⟩:=hR.out.slice;obtain⟨a1,c1,rfl⟩:=ha.slice;obtain⟨a2,c2,rfl⟩:=hb.slice;dsimp only at hR;obtain⟨G,hG⟩:∃G,tV ⟨W,E,I,O⟩ W ps=G:=⟨_,rfl⟩
 have aQ:=aH w (.cells #[.int .i64 W,.slice ae E.length ce,.slice ai I.length ci,.slice ao O.length co] 33);have aT:=aH (w.alloc (.cells #[.int .i64 W,.slice ae E.length ce,.slice ai I.length ci,.slice ao O.length co] 33)) (.cells #[.int .i64 0,.slice none 0 0,.slice none 0 0,.slice none 0 0] 33);have hB:=aQ.trans (aT.mono aQ.size);have kR:=Bk.new (w.alloc (.cells #[.int .i64 W,.slice ae E.length ce,.slice ai I.length ci,.slice ao O.length co] 33)) 33 #[.int .i64 0,.slice none 0 0,.slice none 0 0,.slice none 0 0];simp only[Zn]at kR;have HQ:=Za (λu (hb2:Below w.heap.size w u)=>aiV W E I O _ _ _ _ _ ps u (hR.keep hb2) hA (ha.keep hb2) (hb.keep hb2) hp hl);rw[hG]at HQ ⊢;generalize kY ⟨W,E,I,O⟩ W ps=T at *;generalize(nI (ps.map Prod.fst)).length=m1 at *;generalize(nI (ps.map Prod.snd)).length=m2 at *;clear aQ aT hG hR hA ha hb hp;go_enter Tryz.func148,Tryz.ntmps148;go_wp2_with fail
 generalize((w.alloc (.cells #[.int .i64 W,.slice ae E.length ce,.slice ai I.length ci,.slice ao O.length co] 33)).alloc (.cells #[.int .i64 0,.slice none 0 0,.slice none 0 0,.slice none 0 0] 33))=u0 at *;have eU:=kR.lt;refine(HQ.out u0 hB).mono ?_;rintro e u1⟨we,wi,wo,wt,rfl,hg,ht,hb⟩;obtain⟨⟨p1,q1,rfl⟩,⟨p2,q2,rfl⟩,p3,q3,rfl⟩:=hg.at.slices;obtain⟨pt,qt,rfl⟩:=ht.slice;have oV:=kR.keep hb;obtain⟨iR,fR,zR⟩:=oV.cell;have HG:=Za hg;have HB:=Za (hB.trans (hb.mono hB.size));obtain⟨gw,ge,gi,gq⟩:=G;dsimp only;clear hg hb kR oV ht;go_wp2;refine Zt (v:=.agg #[.int .i64 gw,.slice p1 ge.length q1,.slice p2 gi.length q2,.slice p3 gq.length q3]) (by simp[results,Tryz.results148,go_sem,iR,fR,zR]) rfl ⟨_,_,_,rfl,((HG.out.res eU _ _ _ _).keep (aH _ _)).mono hB.size,?_⟩;have h4:=iU HB.out (b:=w.heap.size+1) (by omega) (.int .i64 gw) (.slice p1 ge.length q1) (.slice p2 gi.length q2) (.slice p3 gq.length q3);exact h4.trans ((aH _ _).mono h4.size)
theorem ade {w:World} {a:Option Addr} {n cap:Nat} {xs ys:List Int} (h:aU w (.slice a n cap) (xs++ys)):aU w (.slice a xs.length cap) xs:=by
 obtain⟨a',cap',he,hc,hat⟩:=h;simp only[Zx]at he;obtain⟨rfl,_,rfl⟩:=he;refine⟨_,_,rfl,by simp at hc;omega,λi hi=>?_⟩;obtain⟨b,o,h1,hl,h2⟩:=hat i (by simp;omega);exact⟨b,o,h1,hi,by rw[Xx hi]at h2;exact h2⟩
theorem adf {w:World} {a:Option Addr} {n cap:Nat} {xs ys:List Int} (h:aU w (.slice a n cap) (xs++ys)):aU w (.slice (if cap=xs.length then a else Option.map (λx=>x.add xs.length) a) ys.length (cap-xs.length)) ys:=by
 obtain⟨a',cap',he,hc,hat⟩:=h;simp only[Zx]at he;obtain⟨rfl,_,rfl⟩:=he;rw[Zk]at hc;refine⟨_,_,rfl,by omega,λi hi=>?_⟩;obtain⟨b,o,h1,hl,h2⟩:=hat (xs.length+i) (by simp;omega)
 rw[ZH (by omega),h1];refine⟨b,o+xs.length,by rw[VK,addr_add],hi,?_⟩;rw[YY (by omega)]at h2;simp only[YF]at h2;rw[show o+xs.length+i*1=o+(xs.length+i)*1 by omega];exact h2
theorem arX (A B:Nat) (E E':List aO) (I I' O O':List Int) (ve vi vo ve' lJ ig:Value) (w:World) (hR:dM w ve vi vo ⟨A,E,I,O⟩) (qx:dM w ve' lJ ig ⟨B,E',I',O'⟩)
  (ga:aY ⟨A,E,I,O⟩=true) (gb:aY ⟨B,E',I',O'⟩=true) (jM:O.length=I'.length) :
  Calls Tryz.prog 110 #[.agg #[.int .i64 A,ve,vi,vo],.agg #[.int .i64 B,ve',lJ,ig]] w (nZ (pI ⟨A,E,I,O⟩ ⟨B,E',I',O'⟩) w):=by
 obtain⟨G,hG⟩:∃G,pI ⟨A,E,I,O⟩ ⟨B,E',I',O'⟩=G:=⟨_,rfl⟩
 rw[hG];have TU:=Za hG;clear hG;obtain⟨ae,ce,rfl⟩:=hR.ed.slice;obtain⟨ai,ci,rfl⟩:=hR.inn.slice;obtain⟨ao,co,rfl⟩:=hR.out.slice;obtain⟨pJ,pK,rfl⟩:=qx.ed.slice;obtain⟨pO,ci',rfl⟩:=qx.inn.slice;obtain⟨ao',pR,rfl⟩:=qx.out.slice;have hA:=CX ga rfl;have yI:=CX gb rfl;dsimp only at hR qx;have acY:=hA.le;have ae6:=yI.le;have aQ:=aH w (.cells #[.int .i64 A,.slice ae E.length ce,.slice ai I.length ci,.slice ao O.length co] 33);have aT:=aH (w.alloc (.cells #[.int .i64 A,.slice ae E.length ce,.slice ai I.length ci,.slice ao O.length co] 33)) (.cells #[.int .i64 B,.slice pJ E'.length pK,.slice pO I'.length ci',.slice ao' O'.length pR] 33);have dU:=aH ((w.alloc (.cells #[.int .i64 A,.slice ae E.length ce,.slice ai I.length ci,.slice ao O.length co] 33)).alloc (.cells #[.int .i64 B,.slice pJ E'.length pK,.slice pO I'.length ci',.slice ao' O'.length pR] 33)) (.cells #[.int .i64 0,.slice none 0 0,.slice none 0 0,.slice none 0 0] 33);have hB:=aQ.trans ((aT.mono aQ.size).trans (dU.mono (by simp;omega)));have kA:=((Bk.new w 33 #[.int .i64 A,.slice ae E.length ce,.slice ai I.length ci,.slice ao O.length co]).keep aT).keep dU;have kB:=(Bk.new (w.alloc (.cells #[.int .i64 A,.slice ae E.length ce,.slice ai I.length ci,.slice ao O.length co] 33)) 33 #[.int .i64 B,.slice pJ E'.length pK,.slice pO I'.length ci',.slice ao' O'.length pR]).keep dU;have kR:=Bk.new ((w.alloc (.cells #[.int .i64 A,.slice ae E.length ce,.slice ai I.length ci,.slice ao O.length co] 33)).alloc (.cells #[.int .i64 B,.slice pJ E'.length pK,.slice pO I'.length ci',.slice ao' O'.length pR] 33)) 33 #[.int .i64 0,.slice none 0 0,.slice none 0 0,.slice none 0 0];simp only[Zn]at kR kB;clear aQ aT dU;have rW:=Za hA;have Dc:=Za yI;have Gm:=Za hR;have Bo:=Za qx;have HG:=Za (Zb ga (Zb gb jM));clear hA yI hR qx ga gb jM;have HBS:=Za (λu (h:dM u (.slice ae E.length ce) (.slice ai I.length ci) (.slice ao O.length co) ⟨A,E,I,O⟩) (h':dM u (.slice pJ E'.length pK) (.slice pO I'.length ci') (.slice ao' O'.length pR) ⟨B,E',I',O'⟩)=>(awj A B E E' I I' O O' _ _ _ _ _ _ u h h' rW.out Dc.out).mono (R':=Ad _ u) λ_ _ h=>h.mq);go_enter Tryz.func110,Tryz.ntmps110;go_wp2_with fail
 generalize(((w.alloc (.cells #[.int .i64 A,.slice ae E.length ce,.slice ai I.length ci,.slice ao O.length co] 33)).alloc (.cells #[.int .i64 B,.slice pJ E'.length pK,.slice pO I'.length ci',.slice ao' O'.length pR] 33)).alloc (.cells #[.int .i64 0,.slice none 0 0,.slice none 0 0,.slice none 0 0] 33))=u0 at *;have aaP:=kR.lt;refine(HBS.out u0 (Gm.out.keep hB) (Bo.out.keep hB)).mono ?_;rintro e u1⟨x1,y1,x2,y2,x3,y3,rfl,hg1,hb1⟩;dsimp only[PI]at hg1 ⊢;obtain⟨L3,hL3⟩:∃L,E++E'.map (jm (bY A B))=L:=⟨_,rfl⟩
 obtain⟨X,hX⟩:∃L,aG (bY A B) I'=L:=⟨_,rfl⟩
 obtain⟨Y,hY⟩:∃L,aG (bY A B) O'=L:=⟨_,rfl⟩
 obtain⟨L1,DW⟩:∃L,I++X=L:=⟨_,rfl⟩
 obtain⟨L2,hL2⟩:∃L,O++Y=L:=⟨_,rfl⟩
 rw[hL3,hX,hY,DW,hL2]at hg1 ⊢;have NK:((A+B:Nat):Int)=(A:Int)+B:=by omega
 simp only[NK]at hg1 ⊢;have HL:=Za (Zb hL3 (Zb hX (Zb hY (Zb DW hL2))));have dV:=aH u1 (.cells #[.int .i64 ((A:Int)+B),.slice x1 L3.length y1,.slice x2 L1.length y2,.slice x3 L2.length y3] 33);have kO:=Bk.new u1 33 #[.int .i64 ((A:Int)+B),.slice x1 L3.length y1,.slice x2 L1.length y2,.slice x3 L2.length y3];have kA1:=kA.keep hb1;obtain⟨iA,-,zA⟩:=kA1.cell;have a2:=iA 2;have a3:=iA 3;simp at a2 a3;clear iA hL3 hX hY NK;go_wp2_with fail
 have vS:=hb1.size;have aS:=hB.trans (hb1.mono hB.size);have dZ:=aS.trans (dV.mono aS.size);replace kA:=kA1.keep dV;replace kR:=(kR.keep hb1).keep dV;have hg4:=hg1.keep dV;have jw:=Za (Zb aaP vS);clear kA1 hb1 vS dV aS a2 a3 zA hg1;generalize(u1.alloc (.cells #[.int .i64 ((A:Int)+B),.slice x1 L3.length y1,.slice x2 L1.length y2,.slice x3 L2.length y3] 33))=v1 at *;generalize u1.heap.size=bO at *;obtain⟨iA,-,zA⟩:=kA.cell;have a2:=iA 2;have a3:=iA 3;simp at a2 a3;clear iA;go_quiet (fail);have hq:=λn=>Zb (kO.keep (YU (Zl _ _) n)) (Zb (kR.keep (YU (Zl _ _) n)) (Zb (hg4.keep (YU (Zl _ _) n)) (YU dZ n)));go_wp2_with fail
 generalize hv2:World.drewN v1 _=v2;have rX:=hq nq;rw[hv2]at rX;obtain⟨qP,oV,D8,iV⟩:=rX;have HLV:=Za (Zb qP.lt oV.lt);clear hq hv2 kO kR kA a2 a3 zA dZ;obtain⟨iO,-,zO⟩:=qP.cell;have hc2:L1.length<=y2:=by obtain⟨_,_,he,hc,_⟩:=hg4.inn.at;simp only[Zx]at he hc;omega
 have hc3:L2.length<=y3:=by obtain⟨_,_,he,hc,_⟩:=hg4.out.at;simp only[Zx]at he hc;omega
 have iH:I.length<=L1.length:=by rw[<-DW,Zk];omega
 have hl2:O.length<=L2.length:=by rw[<-hL2,Zk];omega
 have c1:0<=(O.length:Int)/\(O.length:Int)<=(y3:Int):=by omega
 have c2:0<=(I.length:Int)/\(I.length:Int)<=(L1.length:Int):=by omega
 refine h_ (C:=aC (dD) _) 6 [0,1,2,3,4,5,6,7,8,9,10,11] (by kernel_rfl) (by kernel_rfl) (aC.aJ _ _) (aC.refl _ _) ?_;iterate 4 (apply dh rfl rfl rfl;(focus intro u hc' hf';go_simp<;>rfl);intro K hK;go_simp;apply hK;clear hK K)
 have bw:∀{u:World},Below v2.drew.heap.size v2.drew u->Below w.heap.size w u:=λh=>iV.trans (((Zl v2.heap.size v2).drew.trans (h.mono (by simp))).mono iV.size);have bd:∀{u:World},Below v2.drew.heap.size v2.drew u->Below v2.heap.size v2 u:=λh=>(Zl v2.heap.size v2).drew.trans (h.mono (by simp));have hiO:aU v2 (.slice x3 O.length y3) O:=by have h:=D8.out.at;simp only[<-hL2]at h;exact ade h
 refine fD rfl rfl rfl (aC.aJ _ _) (aC.refl _ _) 84 (λK hK=>?_);apply Zq;refine⟨λw' hw'=>?_,λwa bT bZ=>?_⟩;(focus go_simp;rfl);refine(Cc _ O _ (hiO.keep (bd bZ)) (by have:=rW.out.ok.out;simp only at this;omega)).mono ?_;rintro e w3⟨v3,rfl,hr3,hb3⟩;refine⟨_,rfl,hb3,λhx=>?_⟩;go_simp;apply hK;clear hK K;iterate 4 (apply dh rfl rfl rfl;(focus intro u hc' hf';go_simp<;>rfl);intro K hK;go_simp;apply hK;clear hK K)
 have hiI:aU v2 (.slice (if y2=I.length then x2 else Option.map (λx=>x.add I.length) x2) (L1.length-I.length) (y2-I.length)) X:=by
  have h:=D8.inn.at
  simp only[<-DW]at h;have h2:=adf h;rwa [show X.length=L1.length-I.length by rw[<-DW,Zk];omega]at h2
 generalize(if y2=I.length then x2 else Option.map (λx=>x.add I.length) x2)=p2 at *;obtain⟨a3,q3,rfl⟩:=hr3.slice;have q_:=(bd bZ).trans (hb3.mono (bd bZ).size);have lC:X.length<=100000:=by rw[<-HL.out.2.1,gY];have:=Dc.out.ok.inn;simp only at this;omega
 refine fD rfl rfl rfl (aC.aJ _ _) (hx) 84 (λK hK=>?_);apply Zq;refine⟨λw' hw'=>?_,λwb dJ dH=>?_⟩;(focus go_simp;rfl);refine(Cc _ X _ (hiI.keep (q_.trans (dH.mono q_.size))) lC).mono ?_;rintro e w4⟨v4,rfl,hr4,hb4⟩;refine⟨_,rfl,hb4,λhx=>?_⟩;go_simp;apply hK;clear hK K;obtain⟨a4,q4,rfl⟩:=hr4.slice;iterate 2 (apply dh rfl rfl rfl;(focus intro u hc' hf';go_simp<;>rfl);intro K hK;go_simp;apply hK;clear hK K)
 refine dR ?_;have I8:=q_.trans (dH.mono q_.size);have wZ:=I8.trans (hb4.mono I8.size);have r_:=qP.keep wZ;have KF:=oV.keep wZ;have Oa:=D8.keep wZ;have eY:=iV.trans (wZ.mono iV.size);have tC:=((hr3.keep dH).keep hb4).mono (Zw _);have vH:=hr4.mono (Zw _);clear hx bT bZ dJ dH hr3 hr4 hb3 hb4 q_ I8 wZ qP oV D8 iV bw bd hiO hiI iO zO;obtain⟨iO,fO,zO⟩:=r_.cell;have c3:0<=(I.length:Int)/\(I.length:Int)<=(y2:Int):=by omega
 have c4:0<=(O.length:Int)/\(O.length:Int)<=(L2.length:Int):=by omega
 obtain⟨p3,Sv⟩:∃p3,(if y3=O.length then x3 else Option.map (λx=>x.add O.length) x3)=p3:=⟨_,rfl⟩
 go_wp2_with fail
 have tK:Bk (w4.setCell ⟨bO,2,none⟩ (.slice x2 I.length y2)) bO 33 #[.int .i64 ((A:Int)+B),.slice x1 L3.length y1,.slice x2 I.length y2,.slice x3 L2.length y3]:=r_.set 2 _;have g7:=(Oa.setB r_ (by decide) (by decide) 2 (.slice x2 I.length y2)).setB tK (by decide) (by decide) 3 (.slice p3 (L2.length-O.length) (y3-O.length));have ra:=((tC.setB r_ (by decide) 2 (.slice x2 I.length y2)).setB tK (by decide) 3 (.slice p3 (L2.length-O.length) (y3-O.length))).at
 have rb:=((vH.setB r_ (by decide) 2 (.slice x2 I.length y2)).setB tK (by decide) 3 (.slice p3 (L2.length-O.length) (y3-O.length))).at
 have NP:w.heap.size<=bO:=by have:=jw.out;omega
 have I7:¬w.heap.size+1+1=bO:=by have:=jw.out;omega
 have EF:=(KF.other ⟨bO,2,none⟩ (.slice x2 I.length y2) I7).other ⟨bO,3,none⟩ (.slice p3 (L2.length-O.length) (y3-O.length)) I7;have iy:=(eY.setCell (p:=⟨bO,2,none⟩) NP (.slice x2 I.length y2)).setCell (p:=⟨bO,3,none⟩) NP (.slice p3 (L2.length-O.length) (y3-O.length));have gi:aU ((w4.setCell ⟨bO,2,none⟩ (.slice x2 I.length y2)).setCell ⟨bO,3,none⟩ (.slice p3 (L2.length-O.length) (y3-O.length))) (.slice x2 I.length y2) I:=by have h:=g7.inn.at;simp only[<-DW]at h;exact ade h
 have go':aU ((w4.setCell ⟨bO,2,none⟩ (.slice x2 I.length y2)).setCell ⟨bO,3,none⟩ (.slice p3 (L2.length-O.length) (y3-O.length))) (.slice p3 (L2.length-O.length) (y3-O.length)) Y:=by
  have h:=g7.out.at
  have e:Y.length=L2.length-O.length:=by rw[<-hL2,Zk];omega
  simp only at h;have h2:=adf (xs:=O) (ys:=Y) (by rw[hL2];exact h)
  rw[Sv,e]at h2;exact h2
 have ge:=g7.ed.at
 have jO:=Za (Zb ge (Zb gi (Zb go' (Zb ra (Zb rb iy)))));have hYl:Y.length=L2.length-O.length:=by rw[<-hL2,Zk];omega
 clear g7 ra rb gi go' ge iy r_ tK KF tC vH Sv Oa eY iO fO zO;generalize((w4.setCell ⟨bO,2,none⟩ (.slice x2 I.length y2)).setCell ⟨bO,3,none⟩ (.slice p3 (L2.length-O.length) (y3-O.length)))=W7 at *;have hOP:lN ⟨A,E,I,O⟩ ⟨B,E',I',O'⟩=⟨((A+B:Nat):Int),L3,I,Y⟩:=by
  unfold lN;simp only[Zr];rw[HL.out.1,HL.out.2.2.1]
 have KG:=aaE HG.out.1 HG.out.2.1;have NQ:=aeJ HG.out.1 HG.out.2.1;have hPL:=aeK (b:=⟨B,E',I',O'⟩) HG.out.1;have e1:=ap3 (a:=⟨A,E,I,O⟩) (b:=⟨B,E',I',O'⟩) HG.out.1 HG.out.2.2;have e2:=ap4 (a:=⟨A,E,I,O⟩) (b:=⟨B,E',I',O'⟩) HG.out.1 HG.out.2.1 HG.out.2.2;have EG:=TU.out;unfold pI at EG;rw[hOP]at KG EG;simp only[Zr]at KG NQ EG e1 e2;rw[HL.out.2.1]at e2;have yN:=arW (A+B) L3 I Y (.slice x1 L3.length y1) (.slice x2 I.length y2) (.slice p3 (L2.length-O.length) (y3-O.length)) (.slice a3 O.length q3) (.slice a4 X.length q4) (qK ⟨A,E,I,O⟩ ⟨B,E',I',O'⟩) W7 ⟨jO.out.1,jO.out.2.1,jO.out.2.2.1⟩ KG (by rw[e1];exact jO.out.2.2.2.1) (by rw[e2];exact jO.out.2.2.2.2.1) NQ (by omega);rw[EG,XX]at yN;refine(yN.mono (R':=Ad G W7) λ_ _ h=>h.mq).mono ?_;rintro e w9⟨s1,t1,s2,t2,s3,t3,rfl,yA,dX⟩;have pU:=EF.keep dX;have eU:=EF.lt;have NR:=Za yA;have Gn:=Za (jO.out.2.2.2.2.2.trans (dX.mono jO.out.2.2.2.2.2.size));have HW7:=Za jO.out.2.2.2.2.2.size;obtain⟨iR,fR,zR⟩:=pU.cell;clear yA dX EF pU yN EG hPL NQ KG hOP e1 e2;obtain⟨gw,ge,gi,go⟩:=G;dsimp only;go_wp2;refine Zt (v:=.agg #[.int .i64 gw,.slice s1 ge.length t1,.slice s2 gi.length t2,.slice s3 go.length t3]) (by simp[results,Tryz.results110,go_sem,iR]) rfl ⟨_,_,_,rfl,?_,?_⟩
 ·exact(NR.out.res eU _ _ _ _).mono HW7.out
 ·exact iU Gn.out (by omega) _ _ _ _
theorem akl (g:aF) (ve vi vo:Value) (w:World) (hR:dB w 0 ve vi vo g) (aP:nJ g) :
  Calls Tryz.prog 109 #[.agg #[.int .i64 g.aB,ve,vi,vo]] w λe w'=>(aY g=true->e=.returned (.tuple #[.agg #[.int .i64 g.aB,ve,vi,vo],.bool true]))/\(aY g=false->e=.returned (.tuple #[.agg #[.int .i64 0,.slice none 0 0,.slice none 0 0,.slice none 0 0],.bool false]))/\Below w.heap.size w w':=by
 obtain⟨⟨ae,ce,rfl⟩,⟨ai,ci,rfl⟩,ao,co,rfl⟩:=hR.at.slices;have aQ:=aH w (.cells #[.int .i64 g.aB,.slice ae g.ah.length ce,.slice ai g.aj.length ci,.slice ao g.ay.length co] 33);have aT:=aH (w.alloc (.cells #[.int .i64 g.aB,.slice ae g.ah.length ce,.slice ai g.aj.length ci,.slice ao g.ay.length co] 33)) (.cells #[.int .i64 0,.slice none 0 0,.slice none 0 0,.slice none 0 0] 33);have hB:=aQ.trans (aT.mono aQ.size);have kG:=(Bk.new w 33 #[.int .i64 g.aB,.slice ae g.ah.length ce,.slice ai g.aj.length ci,.slice ao g.ay.length co]).keep aT;have kR:=Bk.new (w.alloc (.cells #[.int .i64 g.aB,.slice ae g.ah.length ce,.slice ai g.aj.length ci,.slice ao g.ay.length co] 33)) 33 #[.int .i64 0,.slice none 0 0,.slice none 0 0,.slice none 0 0];simp only[Zn]at kR;clear aQ aT;go_enter Tryz.func109,Tryz.ntmps109;go_wp2_with fail
 generalize((w.alloc (.cells #[.int .i64 g.aB,.slice ae g.ah.length ce,.slice ai g.aj.length ci,.slice ao g.ay.length co] 33)).alloc (.cells #[.int .i64 0,.slice none 0 0,.slice none 0 0,.slice none 0 0] 33))=u0 at *;refine(aeA _ _ _ g u0 (hR.keep hB).at aP).mono ?_;rintro e u1⟨rfl,hb⟩;have gG:=kG.keep hb;have qO:=kR.keep hb;have HB:=Za (hB.trans (hb.mono hB.size));obtain⟨iG,fG,zG⟩:=gG.cell;obtain⟨iR,fR,zR⟩:=qO.cell;have hne:¬w.heap.size=w.heap.size+1:=by omega
 clear hb hB kG kR gG qO aP hR;cases hg:aY g with
 | true =>
  go_wp2;refine Zt (v:=.tuple #[.agg #[.int .i64 g.aB,.slice ae g.ah.length ce,.slice ai g.aj.length ci,.slice ao g.ay.length co],.bool true]) (by simp[results,Tryz.results109,go_sem,iR,fR,zR]) rfl ⟨λ_=>rfl,λh=>absurd (hg.symm.trans h) (by decide),iU HB.out (by omega) _ _ _ _⟩
 | false =>
  go_wp2;refine Zt (v:=.tuple #[.agg #[.int .i64 0,.slice none 0 0,.slice none 0 0,.slice none 0 0],.bool false]) (by simp[results,Tryz.results109,go_sem,iR,fR,zR]) rfl ⟨λh=>absurd (hg.symm.trans h) (by decide),λ_=>rfl,iU HB.out (by omega) _ _ _ _⟩
def Chain:List (Nat×W2)->List W2->Prop
 | X,[]=>X=[]
 | X,t::st=>∃Y f,X=Y++[(f,t)]/\f<=Y.length/\Chain (Y.take f) st
theorem akm {X:List (Nat×W2)} {st:List W2} (h:Chain X st) (t:W2):Chain (X++[(X.length,t)]) (t::st) :=
 ⟨X,X.length,rfl,Zj _,by rw[ZY];exact h⟩
theorem akn {X:List (Nat×W2)} {a b:W2} {st:List W2} (h:Chain X (b::a::st)) :
  ∃f g:Nat,X[X.length-1]?=some (f,b)/\1<=f/\f<X.length/\X[f-1]?=some (g,a)/\g<f/\∀t,Chain (X++[(g,t)]) (t::st):=by
 obtain⟨Y,f,rfl,hf,Z,g,hZ,hg,hc⟩:=h;have hl:=congrArg List.length hZ;simp only[ZJ,Zk,Yv,Y6]at hl;have jS:f=Z.length+1:=by omega
 subst jS;refine⟨Z.length+1,g,?_,by omega,by simp;omega,?_,by omega,?_⟩
 ·simp
 ·rw[Nat.add_sub_cancel,Yz (by omega)];have h2:=congrArg (λl=>l[Z.length]?) hZ;simp only[List.getElem?_take]at h2;rw[ZE (by omega)]at h2;simpa using h2
 ·intro t;refine⟨_,g,rfl,by simp;omega,?_⟩;have:List.take g (Y++[(Z.length+1,b)])=List.take g Z:=by
   rw[Xl (by omega)];have h3:=congrArg (List.take g) hZ;rw[Wq,YR (by omega),Xl hg]at h3;exact h3
  rw[this];exact hc
theorem afU {X:List (Nat×W2)} {b:W2} (h:Chain X [b]):1<=X.length/\X[X.length-1]?=some (0,b):=by
 obtain⟨Y,f,rfl,hf,hc⟩:=h;have hc':Y.take f=[]:=hc;have:=congrArg List.length hc';simp only[ZJ,Y6]at this;obtain rfl:f=0:=by omega
 exact⟨by simp,by simp⟩
theorem chain_nil {X:List (Nat×W2)} (h:Chain X []):X=[]:=h
theorem arY {P:Program} (w:World) (base:Nat) (t ty e:TypeId) (i:TypeInfo) (z:Value) (size bytes:Nat) (ht:P.underlying t=some (.slice e)) (hi:P.info? e=some i) (hz:i.zero=some z)
  (hsize:i.size=size) (hby:i.bytes=bytes) (hzs:z.cells.size=size) (hsz:0<size)
  (v:Value) (n:Nat) (xs:List Value) (hown:w.ownsRow base e size v n xs) (a:Addr) (m c:Nat) (news:List Value) (hl:news.length=m*size) (hnews:∀j u,news[j]?=some u->w.cell? (a.add j)=some u) (h1:∀u∈news,u.oneCell'=true)
  (h63:n+m<=maxLen) (hbytes:(n+m)*bytes<=140737488355328) (v':Value) (w':World) (hrun:(Builtin.append_ #[t,t] ty #[v,.slice (some a) m c]).run P w=.ok v' w') (hgr:w.grownBy w' v.ownBlock) (hloc:v'.ownBlock=v.ownBlock\/v'.ownBlock=some w.heap.size) :
  v'.ownBlock=v.ownBlock\/(v'.ownBlock=some w.heap.size/\w.grownBy w' none):=by
 subst hsize;subst hby;have awk:n+m<=9223372036854775807:=by simp only[maxLen]at h63;omega
 rcases hown.2 with⟨rfl,rfl⟩|⟨g,cap,cur,rfl,hbg,hg,hnc,hcm,hcs,an7⟩
 ·rcases hloc with h|h
  ·exact .inl h
  ·exact .inr ⟨h,hgr⟩
 ·by_cases hroom:n+m<=cap
  ·have jM:n*i.size+news.length<=cur.size:=by rw[hl,hcs,<-Xs];exact XN _ hroom
   have hr:=run_append_room (P:=P) w t ty e i ht hi g n cap cur hg a m c news hl hnews h1 hroom jM;rw[hrun]at hr;simp only[Ve]at hr;exact .inl (by rw[hr.1];rfl)
  ·have holds:∀j u,xs[j]?=some u->w.cell? ((⟨g,0,none⟩:Addr).add j)=some u:=hown.cells (g:=g) rfl;have hr:=run_append_grow (P:=P) w t ty e i z ht hi hz ⟨g,0,none⟩ n cap xs hown.1 holds a m c news hl hnews (by omega) (by omega) (growslice_fits (by omega) hbytes);rw[hrun]at hr;simp only[Ve]at hr;refine .inr ⟨by rw[hr.1];rfl,?_⟩;rw[hr.2];exact⟨rfl,rfl,rfl,by simp,λk hk _=>heap_alloc_old w.drew _ hk⟩
section
variable {P:Program} {ops:Array Oper} {Q:Exit -> Act -> World -> Prop} {C:World -> Prop} {N:Nat}
theorem ako {i:Nat} {l:List Nat} {bs:Nat->Prop} {a:Act} {w:World} {o:Oper} (ho:ops[i]?=some o) (hk:jW o=.act) (hg:o.guard=none) (hG:Au C N) (hC:C w) (s x:Operand) (t:TypeId)
  (hop:o.op=Op.call { callee:=Callee.builtin Builtin.append,args:=#[s,x],argTypes:=#[t,t] })
  (base:Nat) (e:TypeId) (inf:TypeInfo) (z:Value) (size bytes:Nat) (h1:P.underlying t=some (.slice e)) (h2:P.info? e=some inf) (hz:inf.zero=some z)
  (hsize:inf.size=size) (hby:inf.bytes=bytes) (hzs:z.cells.size=size) (hsz:0<size)
  (v:Value) (n:Nat) (xs:List Value) (hs:a.eval s=v) (AP:∀k,v.ownBlock=some k->k<N\/bs k) (ad:Addr) (m c:Nat) (news:List Value) (hx:a.eval x=.slice (some ad) m c) (hn:news.length=m*size)
  (h1c:∀u∈news,u.oneCell'=true) (h63:n+m<=maxLen) (hbytes:(n+m)*bytes<=140737488355328) (hbase:base<=w.heap.size)
  (H:∀w1,C w1->Below w.heap.size w w1->w1.ownsRow base e size v n xs/\(∀j u,news[j]?=some u->w1.cell? (ad.add j)=some u))
  (arZ:∀w1 w2 v',C w1->Below w.heap.size w w1->w2.ownsRow base e size v' (n+m) (xs++news)->w1.grownBy w2 v.ownBlock->(v'.ownBlock=v.ownBlock\/(v'.ownBlock=some w1.heap.size/\w1.grownBy w2 none))->C w2)
  (h:∀K:(Nat->Prop)->Act->World->Prop,(∀bs a w,WX P ops C N Q l bs a w->K bs a w)->∀w1 w2 v',C w1->Below w.heap.size w w1 ->
   w2.ownsRow base e size v' (n+m) (xs++news)->w1.grownBy w2 v.ownBlock->C w2->(v'.ownBlock=v.ownBlock\/(v'.ownBlock=some w1.heap.size/\w1.grownBy w2 none))->K (more bs w1 w2) (a.put o.dst v') w2) :
  WX P ops C N Q (i::l) bs a w:=by
 intro o' iY;rw[ho]at iY;obtain rfl:=Zy iY;unfold qX rM;rw[ZE (by simp[Region.wanted,hg])];simp only[hk];intro w1 dQ;have oO:=hG.grow _ _ hC dQ;obtain⟨ha,hb⟩:=H w1 oO dQ;obtain⟨v',w2,hrun,r1,r2,r3,r4⟩:=run_append_own_at (P:=P) w1 base t o.type e inf z size bytes h1 h2 hz hsize hby hzs hsz v n xs ha ad m c news hn hb h1c h63 hbytes (ZI hbase dQ.size);have r5:=arY (P:=P) w1 base t o.type e inf z size bytes h1 h2 hz hsize hby hzs hsz v n xs ha ad m c news hn hb h1c h63 hbytes v' w2 hrun r2 r4;have hr:(execOp a.eval o).run P w1=.ok (.value v') w2:=by
  simp[execOp,hop,resolve,invoke,builtin,hs,hx,hrun,Result.andThen]
 unfold rJ;rw[hr];have Dw:=arZ w1 w2 v' oO dQ r1 r2 r5;exact⟨Dw,r2.size,λk hN d_ hlt=>r2.block k hlt (λe=>by rcases AP k e.symm with h|h;omega;exact d_ h),more bs w1 w2,λ_ h=>.inl h,λ_ h=>h,h _ (λ_ _ _ h=>h) w1 w2 v' oO dQ r1 r2 Dw r5⟩
end
def xC (w0:World) (g n:Nat) (w:World):Prop:=aC (λj=>j=g) w0 w/\(∀j,j<n->w.cell? ⟨g,j,none⟩=w0.cell? ⟨g,j,none⟩)/\g<w0.heap.size
theorem xC.refl (w0:World) (g n:Nat) (h:g<w0.heap.size):xC w0 g n w0:=⟨aC.refl _ _,λ_ _=>rfl,h⟩
theorem xC.aJ (w0:World) (g n:Nat):Au (xC w0 g n) w0.heap.size :=
 ⟨λw w' h hb=>⟨h.1.below hb,λj hj=>(hb.cell (p:=⟨g,j,none⟩) (Yc h.2.2 h.1.size)).trans (h.2.1 j hj),h.2.2⟩,λw h=>h.1.size⟩
theorem xC.append {w0 w1 w2:World} {g n base e size:Nat} {v v':Value} {k m:Nat} {xs news:List Value} (h:xC w0 g n w1) (hv:v.ownBlock=some g) (Uu:w1.ownsRow base e size v k xs) (hn:n<=k*size)
  (ho:w2.ownsRow base e size v' m (xs++news)) (hm:k<=m) (hg:w1.grownBy w2 v.ownBlock) (hl:v'.ownBlock=v.ownBlock\/(v'.ownBlock=some w1.heap.size/\w1.grownBy w2 none)):xC w0 g n w2:=by
 refine⟨h.1.grown hg (λj hj=>by rw[hv]at hj;cases hj;exact .inr rfl),λj hj=>?_,h.2.2⟩;rw[<-h.2.1 j hj];rcases hl with hl|⟨_,hl⟩
 ·rw[hv]at hl;have e1:∀{w:World} {v:Value} {k:Nat} {xs:List Value},w.ownsRow base e size v k xs->v.ownBlock=some g->j<k*size->w.cell? ⟨g,j,none⟩=xs[j]?:=by
   intro w v k xs iY hv hj;rcases iY.2 with⟨rfl,_⟩|⟨g',cap,cur,rfl,_⟩
   ·simp[Value.ownBlock]at hv
   ·simp[Value.ownBlock]at hv;subst hv;exact World.ownsRow.cellAt iY j hj
  have hkm:k*size<=m*size:=XN _ hm;rw[e1 ho hl (by omega),e1 Uu hv (by omega),Yz (by rw[Uu.1];omega)]
 ·exact XS (w:=w1) (hl.block g (Yc h.2.2 h.1.size) (by simp))
end Go.Proofs.YtkhpobekconobaaGreat
