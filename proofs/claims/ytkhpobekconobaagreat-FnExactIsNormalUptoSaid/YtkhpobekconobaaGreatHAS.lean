import Derived.Test.YtkhpobekconobaaGreatHAR
set_option linter.all false
set_option maxRecDepth 100000
set_option maxHeartbeats 0
namespace Go.Proofs.YtkhpobekconobaaGreat
open Go.RowKit
theorem ac0 {w:World} {bb:Nat} {t:TypeId} {u v:Value} {a b:List Int} (h:w.heap[bb]?=some (.cells #[u,v] t)) (hu:aU w u a) (hv:aU w v b):JR w (.slice (some ⟨bb,0,none⟩) 2 2) [a,b]:=by
 obtain⟨m0,m1,m2⟩:=made_cell h;refine⟨_,_,rfl,Zj _,λi hi=>⟨bb,0,rfl,hi,?_⟩⟩;have:i=0\/i=1:=by simp at hi;omega
 rcases this with rfl|rfl
 ·exact⟨u,m0 0,hu⟩
 ·exact⟨v,m0 1,hv⟩
theorem aqM (A B:Nat) (E E':List aO) (I I' O O':List Int) (ve vi vo ve' lJ ig:Value) (w:World) (hR:dM w ve vi vo ⟨A,E,I,O⟩) (qx:dM w ve' lJ ig ⟨B,E',I',O'⟩)
  (ga:aY ⟨A,E,I,O⟩=true) (gb:aY ⟨B,E',I',O'⟩=true) :
  Calls Tryz.prog 133 #[.agg #[.int .i64 A,ve,vi,vo],.agg #[.int .i64 B,ve',lJ,ig]] w (nZ (ql ⟨A,E,I,O⟩ ⟨B,E',I',O'⟩) w):=by
 obtain⟨G,hG⟩:∃G,ql ⟨A,E,I,O⟩ ⟨B,E',I',O'⟩=G:=⟨_,rfl⟩
 rw[hG];have TU:=Za hG;clear hG;obtain⟨ae,ce,rfl⟩:=hR.ed.slice;obtain⟨ai,ci,rfl⟩:=hR.inn.slice;obtain⟨ao,co,rfl⟩:=hR.out.slice;obtain⟨pJ,pK,rfl⟩:=qx.ed.slice;obtain⟨pO,ci',rfl⟩:=qx.inn.slice;obtain⟨ao',pR,rfl⟩:=qx.out.slice;have hA:=CX ga rfl;have yI:=CX gb rfl;dsimp only at hR qx;have acY:=hA.le;have ae6:=yI.le;have aQ:=aH w (.cells #[.int .i64 A,.slice ae E.length ce,.slice ai I.length ci,.slice ao O.length co] 33);have aT:=aH (w.alloc (.cells #[.int .i64 A,.slice ae E.length ce,.slice ai I.length ci,.slice ao O.length co] 33)) (.cells #[.int .i64 B,.slice pJ E'.length pK,.slice pO I'.length ci',.slice ao' O'.length pR] 33);have dU:=aH ((w.alloc (.cells #[.int .i64 A,.slice ae E.length ce,.slice ai I.length ci,.slice ao O.length co] 33)).alloc (.cells #[.int .i64 B,.slice pJ E'.length pK,.slice pO I'.length ci',.slice ao' O'.length pR] 33)) (.cells #[.int .i64 0,.slice none 0 0,.slice none 0 0,.slice none 0 0] 33);have hB:=aQ.trans ((aT.mono aQ.size).trans (dU.mono (by simp;omega)));have kA:=((Bk.new w 33 #[.int .i64 A,.slice ae E.length ce,.slice ai I.length ci,.slice ao O.length co]).keep aT).keep dU;have kB:=(Bk.new (w.alloc (.cells #[.int .i64 A,.slice ae E.length ce,.slice ai I.length ci,.slice ao O.length co] 33)) 33 #[.int .i64 B,.slice pJ E'.length pK,.slice pO I'.length ci',.slice ao' O'.length pR]).keep dU;have kR:=Bk.new ((w.alloc (.cells #[.int .i64 A,.slice ae E.length ce,.slice ai I.length ci,.slice ao O.length co] 33)).alloc (.cells #[.int .i64 B,.slice pJ E'.length pK,.slice pO I'.length ci',.slice ao' O'.length pR] 33)) 33 #[.int .i64 0,.slice none 0 0,.slice none 0 0,.slice none 0 0];simp only[Zn]at kR kB;clear aQ aT dU;have rW:=Za hA;have Dc:=Za yI;have Gm:=Za hR;have Bo:=Za qx;have HG:=Za (Zb ga gb);clear hA yI hR qx ga gb;have HBS:=Za (λu (h:dM u (.slice ae E.length ce) (.slice ai I.length ci) (.slice ao O.length co) ⟨A,E,I,O⟩) (h':dM u (.slice pJ E'.length pK) (.slice pO I'.length ci') (.slice ao' O'.length pR) ⟨B,E',I',O'⟩)=>(ai8 A B E E' I I' O O' _ _ _ _ _ _ u h h' rW.out Dc.out).mono (R':=Ad _ u) λ_ _ h=>h.mq);go_enter Tryz.func133,Tryz.ntmps133;go_wp2_with fail
 generalize(((w.alloc (.cells #[.int .i64 A,.slice ae E.length ce,.slice ai I.length ci,.slice ao O.length co] 33)).alloc (.cells #[.int .i64 B,.slice pJ E'.length pK,.slice pO I'.length ci',.slice ao' O'.length pR] 33)).alloc (.cells #[.int .i64 0,.slice none 0 0,.slice none 0 0,.slice none 0 0] 33))=u0 at *;have aaP:=kR.lt;refine(HBS.out u0 (Gm.out.keep hB) (Bo.out.keep hB)).mono ?_;rintro e u1⟨x1,y1,x2,y2,x3,y3,rfl,hg1,hb1⟩;obtain⟨L3,hL3⟩:∃L,E++E'.map (jm (bY A B))=L:=⟨_,rfl⟩
 rw[hL3]at hg1 ⊢;dsimp only[List.length_nil]at hg1 ⊢;have NK:((A+B:Nat):Int)=(A:Int)+B:=by omega
 simp only[NK]at hg1 ⊢;clear NK;have dV:=aH u1 (.cells #[.int .i64 ((A:Int)+B),.slice x1 L3.length y1,.slice x2 0 y2,.slice x3 0 y3] 33);have kO:=Bk.new u1 33 #[.int .i64 ((A:Int)+B),.slice x1 L3.length y1,.slice x2 0 y2,.slice x3 0 y3];have kA1:=kA.keep hb1;have kB1:=kB.keep hb1;obtain⟨iA,-,zA⟩:=kA1.cell;obtain⟨iB,-,zB⟩:=kB1.cell;have a0:=iA 0;have b0:=iB 0;simp at a0 b0;clear iA iB;go_wp2_with fail
 have vS:=hb1.size;have aS:=hB.trans (hb1.mono hB.size);have dZ:=aS.trans (dV.mono aS.size);replace kA:=kA1.keep dV;replace kB:=kB1.keep dV;replace kR:=(kR.keep hb1).keep dV;replace hg1:=(hg1.ed.keep dV)
 have jw:=Za (Zb aaP vS);clear kA1 kB1 hb1 vS dV aS a0 b0 zA zB;generalize(u1.alloc (.cells #[.int .i64 ((A:Int)+B),.slice x1 L3.length y1,.slice x2 0 y2,.slice x3 0 y3] 33))=v1 at *;generalize u1.heap.size=bO at *;refine(SI A B v1 (by omega) (by omega)).mono ?_;rintro e wr⟨v6,rfl,fQ,aV⟩;obtain⟨a6,c6,rfl⟩:=fQ.slice;rw[rP]at *;have b_:=dZ.trans (aV.mono dZ.size);replace kA:=kA.keep aV;replace kB:=kB.keep aV;replace kR:=kR.keep aV;have aji:=kO.lt;replace kO:=kO.keep aV;have AL:=Za (hg1.keep aV);have Qa:=Za (Zb aV.size (show bO<v1.heap.size from aji));clear hg1 aV dZ aji;obtain⟨iA,-,zA⟩:=kA.cell;have a2:=iA 2;have a3:=iA 3;obtain⟨iB,-,zB⟩:=kB.cell;have b2:=iB 2;have b3:=iB 3;simp at a2 a3 b2 b3;clear iA iB;go_wp2_with fail
 have aqJ:¬w.heap.size=bO:=by have:=jw.out;omega
 have aqK:¬w.heap.size+1=bO:=by have:=jw.out;omega
 have bw:∀{u:World},Below wr.heap.size wr u->Below w.heap.size w u:=λh=>b_.trans (h.mono b_.size);have bd:∀{u:World},Below wr.drew.heap.size wr.drew u->Below wr.heap.size wr u:=λh=>(Zl wr.heap.size wr).drew.trans (h.mono (by simp));have qI:I.length<=12/\O.length<=12/\I'.length<=12/\O'.length<=12:=by
  have h1:=eF HG.out.1;have h2:=eF HG.out.2;exact⟨h1.2.2.1,h1.2.2.2.1,h2.2.2.1,h2.2.2.2.1⟩
 refine h_ (C:=aC ((λj=>j=bO)) _) 6 [0,1,2,3,4,5,6,7,8,9,10,11,12,13,14,15,16,17,18,19] (by kernel_rfl) (by kernel_rfl) (aC.aJ _ _) (aC.refl _ _) ?_;iterate 5 (apply i_ rfl rfl rfl;(focus intro u hc' hf';(try simp only[Zo]at hc' hf');go_simp<;>rfl);intro K hK;go_simp;apply hK;clear hK K)
 refine fD rfl rfl rfl (aC.aJ _ _) (aC.refl _ _) 162 (λK hK=>?_);apply Zq;refine⟨λw' hw'=>?_,λwa bT bZ=>?_⟩;(focus go_simp;rfl);refine(MX _ _ (bY A B) I' _ (fQ.keep (bd bZ)).at (Bo.out.inn.keep (bw (bd bZ))) (λk hk=>by have:=Dc.out.from A k (mem_pl.2 (.inl hk));exact this) (by omega) (by rw[rP];omega)).mono ?_;rintro e w3⟨v3,rfl,hr3,hb3⟩;refine⟨_,rfl,hb3,λhx=>?_⟩;go_simp;apply hK;clear hK K;obtain⟨s3,t3,rfl⟩:=hr3.slice;have q_:=(bd bZ).trans (hb3.mono (bd bZ).size);refine ku rfl rfl rfl (aC.aJ _ _) (hx) (λb=>.slice (some ⟨b,0,none⟩) 2 2) (λK hK=>?_);apply Zq;refine⟨λw' hw'=>?_,λm1 w4 hw4 Qb O9 F5 jH=>?_⟩
 ·obtain⟨hc',hf'⟩:=hw'.cell;try simp only[Zo]at hc' hf'
  go_simp;rfl
 go_simp;refine hK _ _ _ ?_;clear hK K;have wZ:=q_.trans (Qb.mono q_.size);refine fD rfl rfl rfl (aC.aJ _ _) (hw4) 125 (λK hK=>?_);apply Zq;refine⟨λw' hw'=>?_,λwb dJ dH=>?_⟩;(focus go_simp;rfl);refine(aap _ [I,aG (bY A B) I'] _ (ac0 ((dH.block m1 (made_cell O9).2.2).trans O9) (Gm.out.inn.keep (bw (wZ.trans (dH.mono wZ.size)))) ((hr3.keep Qb).keep dH).at) (by simp) (by simp[gY];omega)).mono ?_;rintro e w5⟨v5,rfl,jP,bH⟩;refine⟨_,rfl,bH,λhx=>?_⟩;go_simp;apply hK;clear hK K;obtain⟨L1,DW⟩:∃L,I++aG (bY A B) I'=L:=⟨_,rfl⟩
 rw[show[I,aG (bY A B) I'].flatten=I++aG (bY A B) I' by simp,DW]at jP;obtain⟨s5,t5,rfl⟩:=jP.slice;have I8:=wZ.trans (dH.mono wZ.size);have Qg:=I8.trans (bH.mono I8.size);iterate 5 (apply i_ rfl rfl rfl;(focus intro u hc' hf';(try simp only[Zo]at hc' hf');go_simp<;>rfl);intro K hK;go_simp;apply hK;clear hK K)
 refine fD rfl rfl rfl (aC.aJ _ _) (hx) 162 (λK hK=>?_);apply Zq;refine⟨λw' hw'=>?_,λwc hwc oZ=>?_⟩;(focus go_simp;rfl);refine(MX _ _ (bY A B) O' _ (fQ.keep (Qg.trans (oZ.mono Qg.size))).at (Bo.out.out.keep (bw (Qg.trans (oZ.mono Qg.size)))) (λk hk=>by have:=Dc.out.from A k (mem_pl.2 (.inr (.inl hk)));exact this) (by omega) (by rw[rP];omega)).mono ?_;rintro e w7⟨v7,rfl,qL,dA⟩;refine⟨_,rfl,dA,λhx=>?_⟩;go_simp;apply hK;clear hK K;obtain⟨s7,t7,rfl⟩:=qL.slice;have h1c:=Qg.trans (oZ.mono Qg.size);have h17:=h1c.trans (dA.mono h1c.size);refine ku rfl rfl rfl (aC.aJ _ _) (hx) (λb=>.slice (some ⟨b,0,none⟩) 2 2) (λK hK=>?_);apply Zq;refine⟨λw' hw'=>?_,λm2 w8 dY jY J5 J6 jI=>?_⟩
 ·obtain⟨hc',hf'⟩:=hw'.cell;try simp only[Zo]at hc' hf'
  go_simp;rfl
 go_simp;refine hK _ _ _ ?_;clear hK K;have h18:=h17.trans (jY.mono h17.size);refine fD rfl rfl rfl (aC.aJ _ _) (dY) 125 (λK hK=>?_);apply Zq;refine⟨λw' hw'=>?_,λwd hwd EH=>?_⟩;(focus go_simp;rfl);refine(aap _ [O,aG (bY A B) O'] _ (ac0 ((EH.block m2 (made_cell J5).2.2).trans J5) (Gm.out.out.keep (bw (h18.trans (EH.mono h18.size)))) ((qL.keep jY).keep EH).at) (by simp) (by simp[gY];omega)).mono ?_;rintro e w9⟨v9,rfl,Qh,dX⟩;refine⟨_,rfl,dX,λhx=>?_⟩;go_simp;apply hK;clear hK K;obtain⟨L2,hL2⟩:∃L,O++aG (bY A B) O'=L:=⟨_,rfl⟩
 rw[show[O,aG (bY A B) O'].flatten=O++aG (bY A B) O' by simp,hL2]at Qh;obtain⟨s9,t9,rfl⟩:=Qh.slice;have h1d:=h18.trans (EH.mono h18.size);have h19:=h1d.trans (dX.mono h1d.size);have r5:=(((((jP.keep oZ).keep dA).keep jY).keep EH).keep dX).mono (B':=v1.heap.size) (by have:=I8.size;have:=Qa.out;omega);have r9:=Qh.mono (B':=v1.heap.size) (by have:=h1d.size;have:=Qa.out;omega);iterate 1 (apply i_ rfl rfl rfl;(focus intro u hc' hf';(try simp only[Zo]at hc' hf');go_simp<;>rfl);intro K hK;go_simp;apply hK;clear hK K)
 refine jd rfl rfl rfl (aC.aJ _ _) hx (λK hK=>?_);intro wA hwA qF;have Di:=(kO.keep h19).keep qF;obtain⟨n0,n1,n2⟩:=Di.cell;refine⟨wA.setCell ⟨bO,2,none⟩ (.slice s5 L1.length t5),?_,⟨bF hwA (.inr rfl) _,by simp,λj hj _ _=>by rw[Zm _ _ _ _ (by show ¬_=_;intro hh;have:=kO.lt;simp only[Zo]at hj hh;omega)]⟩,?_⟩
 ·go_simp
 go_simp;refine hK _ _ _ ?_;clear hK K;have hxA:aC (λj=>j=bO) wr.drew (wA.setCell ⟨bO,2,none⟩ (.slice s5 L1.length t5)):=bF hwA (.inr rfl) _;iterate 1 (apply i_ rfl rfl rfl;(focus intro u hc' hf';(try simp only[Zo]at hc' hf');go_simp<;>rfl);intro K hK;go_simp;apply hK;clear hK K)
 refine jd rfl rfl rfl (aC.aJ _ _) hxA (λK hK=>?_);intro wB hwB Qi;have yD:=(Di.set 2 (.slice s5 L1.length t5)).keep Qi;obtain⟨l0,l1,l2⟩:=yD.cell;refine⟨wB.setCell ⟨bO,3,none⟩ (.slice s9 L2.length t9),?_,⟨bF hwB (.inr rfl) _,by simp,λj hj _ _=>by rw[Zm _ _ _ _ (by show ¬_=_;intro hh;have:=kO.lt;simp only[Zo]at hj hh;omega)]⟩,?_⟩
 ·go_simp
 go_simp;refine hK _ _ _ ?_;clear hK K;refine dR ?_;have k7:Bk (wB.setCell ⟨bO,3,none⟩ (.slice s9 L2.length t9)) bO 33 #[.int .i64 ((A:Int)+B),.slice x1 L3.length y1,.slice s5 L1.length t5,.slice s9 L2.length t9]:=yD.set 3 _;have NP:w.heap.size<=bO:=by have:=jw.out;omega
 have I7:¬w.heap.size+1+1=bO:=by have:=jw.out;omega
 have h1A:=h19.trans (qF.mono h19.size);have EF:=(((kR.keep h1A).other ⟨bO,2,none⟩ (.slice s5 L1.length t5) I7).keep Qi).other ⟨bO,3,none⟩ (.slice s9 L2.length t9) I7;have aaR:Below w.heap.size w (wB.setCell ⟨bO,3,none⟩ (.slice s9 L2.length t9)):=by
  have h6:=bw h1A;exact((h6.setCell NP _).trans (Qi.mono (by simp;exact h6.size))).setCell NP _
 have jO:=Za (Zb (show dB (wB.setCell ⟨bO,3,none⟩ (.slice s9 L2.length t9)) u0.heap.size (.slice x1 L3.length y1) (.slice s5 L1.length t5) (.slice s9 L2.length t9) G from by
  rw[<-TU.out];unfold ql PI;simp only[Zr];rw[hL3,DW,hL2];refine⟨?_,?_,?_⟩
  ·exact(((AL.out.keep h1A).setB Di (by decide) (by decide) 2 (.slice s5 L1.length t5)).keep Qi).setB yD (by decide) (by decide) 3 (.slice s9 L2.length t9)
  ·exact((((r5.keep qF).setB Di (by decide) 2 (.slice s5 L1.length t5)).keep Qi).setB yD (by decide) 3 (.slice s9 L2.length t9)).mono (by have:=Qa.out;have:=jw.out;omega)
  ·exact((((r9.keep qF).setB Di (by decide) 2 (.slice s5 L1.length t5)).keep Qi).setB yD (by decide) 3 (.slice s9 L2.length t9)).mono (by have:=Qa.out;have:=jw.out;omega)) aaR)
 have HW:=Za (show G=⟨(A:Int)+B,L3,L1,L2⟩from by
  rw[<-TU.out];unfold ql PI;simp only[Zr];rw[hL3,DW,hL2,XX])
 have eU:=EF.lt;have HV:=Za (show w.heap.size+1+1<u0.heap.size/\w.heap.size<=u0.heap.size from⟨jw.out.1,by have:=jw.out;omega⟩);clear yD Di n0 n1 n2 l0 l1 l2 hwB hwA qF Qi hxA hx h19 h1d h18 h17 h1c Qg I8 wZ q_ dY hw4 r5 r9 jP qL Qh hr3 fQ hb3 Qb bH dA jY dX bT bZ dJ dH hwc oZ hwd EH O9 J5 kO kA kB kR a2 a3 b2 b3 zA zB h1A aaR AL bw bd b_;generalize(wB.setCell ⟨bO,3,none⟩ (.slice s9 L2.length t9))=W7 at *;obtain⟨i7,f7,z7⟩:=k7.cell;obtain⟨iR,fR,zR⟩:=EF.cell;go_wp2;refine Zt (v:=.agg #[.int .i64 ((A:Int)+B),.slice x1 L3.length y1,.slice s5 L1.length t5,.slice s9 L2.length t9]) (by simp[results,Tryz.results133,go_sem,iR]) rfl ⟨_,_,_,by rw[HW.out],?_,?_⟩
 ·exact(jO.out.1.res HV.out.1 _ _ _ _).mono HV.out.2
 ·exact iU jO.out.2 (by omega) _ _ _ _
structure vT (w:World) (B:Nat) (v:Value) (xs:List wV):Prop where
 row:w.ownsRow B 33 4 v xs.length (xs.flatMap FI)
 rws:∀x∈xs,dB w B x.2.1 x.2.2.1 x.2.2.2 x.1
theorem vT.keep {w w':World} {B:Nat} {v:Value} {xs:List wV} (hb:Below w.heap.size w w') (h:vT w B v xs):vT w' B v xs:=⟨jL hb h.row,λx hx=>(h.rws x hx).keep hb⟩
theorem vT.shape {w:World} {B:Nat} {v:Value} {xs:List wV} (h:vT w B v xs):∃a cap,v=.slice a xs.length cap:=by
 rcases h.row.2 with⟨hv,he⟩|⟨g,cap,cur,hv,_⟩
 ·exact⟨none,0,by rw[hv,he]⟩
 ·exact⟨_,_,hv⟩
theorem vT.empty (w:World) (B b:Nat) (hb:b=w.heap.size) (hB:B<=b):vT (w.alloc (.cells #[] 33)) B (.slice (some ⟨b,0,none⟩) 0 0) [] :=
 ⟨⟨rfl,.inr ⟨b,0,#[],rfl,hB,by subst hb;exact Bk.new w _ _,Zj _,by unfold maxLen;omega,rfl,rfl⟩⟩,λx hx=>by cases hx⟩
theorem vT.take {w:World} {B g cap:Nat} {xs ys:List wV} (h:vT w B (.slice (some ⟨g,0,none⟩) (xs++ys).length cap) (xs++ys)):vT w B (.slice (some ⟨g,0,none⟩) xs.length cap) xs:=by
 refine⟨?_,λx hx=>h.rws x (ZV _ hx)⟩;have h0:=ahQ h.row xs.length (by rw[Zk];omega);rw[ZL,List.take_left' (by have:=flat_length agY xs;omega)]at h0;exact h0
theorem dB.ajj {w w':World} {B B2 n:Nat} {x y z v:Value} {g:aF} {zs:List Value} (h:dB w B x y z g) (hr:w.ownsRow B2 33 4 v n zs) (hg:w.grownBy w' v.ownBlock):dB w' B x y z g:=by
 have mv:∀(u:Value) l,Rw w B u l->Rw w' B u l:=λu l hu=>hu.grown hg λk hk e=>wC hu hr (by decide) k hk e;obtain⟨⟨xs,h1,h2,h3⟩,h4,h5⟩:=h;exact⟨⟨xs,h1,aaS h2 hg (λk hk e=>wC h2 hr (by decide) k hk e),λx hx=>⟨mv _ _ (h3 x hx).1,mv _ _ (h3 x hx).2⟩⟩,mv _ _ h4,mv _ _ h5⟩
theorem aqN {w:World} {B:Nat} {xs:List wV} (h:∀x∈xs,dB w B x.2.1 x.2.2.1 x.2.2.2 x.1):∀u∈xs.flatMap FI,u.oneCell'=true:=apR λx hx=>(h x hx).at
theorem afb {w:World} {ops:Array Oper} {rest:List Oper} {o:Oper} {a:Act} {Q:Exit->Act->World->Prop} (hgd:o.guard=none) (s x:Operand)
  (ho:o.op=.call { callee:=.builtin .append,args:=#[s,x],argTypes:=#[194,194] })
  (B:Nat) (v:Value) (xs:List wV) (hs:a.eval s=v) (hrow:vT w B v xs) (b:Nat) (y:wV) (hx:a.eval x=.slice (some ⟨b,0,none⟩) 1 1) (hb:Bk w b 33 (FI y).toArray) (hy:dB w B y.2.1 y.2.2.1 y.2.2.2 y.1) (hB:B<=w.heap.size) (hl:xs.length<=100000)
  (H:∀v' w',vT w' B v' (xs++[y])->w.grownBy w' v.ownBlock->(v'.ownBlock=v.ownBlock\/v'.ownBlock=some w.heap.size)->wpList Tryz.prog ops Q rest (a.put o.dst v') w'):wpList Tryz.prog ops Q (o::rest) a w:=by
 obtain⟨i0,hi,hz0,hz1,hz2⟩:=Yg anU;have w_:AO w 4 (.slice (some ⟨b,0,none⟩) 1 1) 1 (FI y):=⟨rfl,.inr ⟨_,_,rfl,λj u hj=>by
  rw[addr_add,Yp,hb.cell.1 j];simpa using hj⟩⟩
 have h1:∀u∈FI y,u.oneCell'=true:=λu hu=>aqN (xs:=[y]) (B:=B) (λx hx=>by obtain rfl:=ZS.1 hx;exact hy) u (by simpa using hu);refine JQ hgd s x 194 ho B 33 i0 _ 4 80 Tryz.underlying194 hi hz0 hz1 hz2 rfl (by decide) v xs.length _ hs hrow.row _ 1 _ hx w_ h1 (by unfold maxLen;omega) (by omega) hB ?_;intro v' w' r1 r2 r3;refine H v' w' ⟨?_,λz hz=>?_⟩ r2 r3
 ·rw[Zk,ZL];simpa using r1
 ·rcases Zs.1 hz with hz|hz
  ·exact(hrow.rws z hz).ajj hrow.row r2
  ·obtain rfl:=ZS.1 hz;exact hy.ajj hrow.row r2
theorem vT.cells {w:World} {B g cap:Nat} {xs:List wV} (h:vT w B (.slice (some ⟨g,0,none⟩) xs.length cap) xs) (i:Nat) (hi:i<xs.length) :
  w.cell? ⟨g,i*4,none⟩=some (.int .i64 xs[i].1.aB)/\w.cell? ⟨g,i*4+1,none⟩=some xs[i].2.1/\w.cell? ⟨g,i*4+2,none⟩=some xs[i].2.2.1/\w.cell? ⟨g,i*4+3,none⟩=some xs[i].2.2.2:=by
 have c:=λj hj=>mV agY h.row i j hi hj;exact⟨c 0 (by omega),c 1 (by omega),c 2 (by omega),c 3 (by omega)⟩
theorem vT.blk {w:World} {B:Nat} {v:Value} {xs:List wV} (h:vT w B v xs) (hx:0<xs.length):∃g cap,v=.slice (some ⟨g,0,none⟩) xs.length cap/\xs.length<=cap/\B<=g/\g<w.heap.size:=by
 rcases h.row.2 with⟨_,he⟩|⟨g,cap,cur,hv,hb,hg,hc,_⟩
 ·omega
 ·exact⟨g,cap,hv,hc,hb,(ZP.1 hg).1⟩
def NS:List aF->List W2->Prop
 | [],[]=>True
 | g::gs,x::xs=>IL g x/\NS gs xs
 | _,_=>False
theorem NS.len:∀{gs:List aF} {xs:List W2},NS gs xs->gs.length=xs.length
 | [],[],_=>rfl
 | g::gs,x::xs,h=>by simp only[Yv,NS.len h.2]
 | [],_::_,h=>by cases h
 | _::_,[],h=>by cases h
def lS (ns:List Nd):Option aF:=(qm ns []).bind List.head?
def ng (r:Option aF):aF:=r.getD ⟨0,[],[],[]⟩
def KH (r:Option aF) (w:World) (e:Ending) (w':World):Prop:=∃ve vi vo,e=.returned (.tuple #[.agg #[.int .i64 (ng r).aB,ve,vi,vo],.bool r.isSome])/\dB w' w.heap.size ve vi vo (ng r)/\Below w.heap.size w w'
theorem afc {ns:List Nd} (h:qm ns []=none):lS ns=none:=by unfold lS;rw[h];rfl
theorem aqO {ns:List Nd} {g:aF} (h:qm ns []=some [g]):lS ns=some g:=by unfold lS;rw[h];rfl
theorem ajk {ns:List Nd} {x:W2} (h:bP (bI []) ns=some x) {g:aF} (hg:lS ns=some g):IL g x/\Gi g:=by
 obtain⟨t,h1,h2,rfl⟩:=aeL h;have hgo:=Nz t x h1 h2 [] [];rw[ZZ]at hgo;unfold lS at hg;rw[hgo]at hg;cases hm:jU t with
 | none=>rw[hm]at hg;cases hg
 | some y =>
  rw[hm]at hg
  have:y=g:=by simpa[qm]using hg
  subst this;exact⟨DU t x h2 y hm,aaN t x h2 y hm⟩
def Bv (W:Nat) (ws:List Int):List Bool:=(List.range W).map λv:Nat=>ws.contains (v:Int)
theorem afd (W:Nat) (ws:List Int):(Bv W ws).length=W:=by simp[Bv]
theorem TY {W:Nat} {ws:List Int} {v:Nat} (h:v<(Bv W ws).length):(Bv W ws)[v]=ws.contains (v:Int):=by simp[Bv]
theorem aqP {W:Nat} {ws:List Int} {w v:Nat} (hw:w<ws.length) (hn:ws.getD w 0=-1) (hv:v<W):(Bv W ws).set v true=Bv W (ws.set w (v:Int)):=by
 apply YT (by simp[Bv]);intro k h1 h2;rw[TY h2,XP];by_cases e:v=k
 ·subst e;rw[ZE rfl];symm;rw[Yh,jX];exact⟨w,by simpa using hw,by rw[xR ws w _ hw,ZE rfl]⟩
 ·rw[ZH e,TY,YK,Yh,Yh,jX,jX];constructor
  ·rintro⟨j,hj,ej⟩;refine⟨j,by simpa using hj,?_⟩;have:j≠w:=λh=>by subst h;rw[hn]at ej;omega
   rw[xR ws w _ hw,ZH this,ej]
  ·rintro⟨j,hj,ej⟩;rw[xR ws w _ hw]at ej;by_cases h:j=w
   ·rw[ZE h]at ej;omega
   ·rw[ZH h]at ej;exact⟨j,by simpa using hj,ej⟩
theorem aqQ {W n:Nat} {ws:List Int} {w:Nat} (h:vk n ws) (hw:w<ws.length) (hn:ws.getD w 0≠-1):(Bv W ws).set (ws.getD w 0).toNat false=Bv W (ws.set w (-1)):=by
 apply YT (by simp[Bv]);intro k h1 h2;have hr:=h.rng w hw;rw[TY h2,XP];by_cases e:(ws.getD w 0).toNat=k
 ·rw[ZE e];symm;rw[Bool.eq_false_iff];intro hc;rw[Yh,jX]at hc;obtain⟨j,hj,ej⟩:=hc;rw[xR ws w _ hw]at ej;by_cases CP:j=w
  ·rw[ZE CP]at ej;omega
  ·rw[ZH CP]at ej;exact CP (h.inj j w (by simpa using hj) hw (by omega) (by omega))
 ·rw[ZH e,TY,YK,Yh,Yh,jX,jX];constructor
  ·rintro⟨j,hj,ej⟩;refine⟨j,by simpa using hj,?_⟩;have:j≠w:=λh=>by subst h;omega
   rw[xR ws w _ hw,ZH this,ej]
  ·rintro⟨j,hj,ej⟩;rw[xR ws w _ hw]at ej;by_cases h:j=w
   ·rw[ZE h]at ej;omega
   ·rw[ZH h]at ej;exact⟨j,by simpa using hj,ej⟩
structure Gp (g_ ws nt:List Int):Prop where
 len:ws.length=g_.length
 rng:∀k∈nt,0<=k/\k<(g_.length:Int)
 nd:nt.Nodup
 yes:∀k∈nt,g_.getD k.toNat 0=-1/\ws.getD k.toNat 0≠-1
 no:∀k,k<g_.length->¬((k:Nat):Int)∈nt->ws.getD k 0=g_.getD k 0
theorem Gp.start (ws:List Int):Gp ws ws []:=⟨rfl,by simp,List.nodup_nil,by simp,λ_ _ _=>rfl⟩
def notE (ws:List Int) (w:Nat):List Int:=if ws.getD w 0≠-1 then[]else[(w:Int)]
theorem aqR {ws ws':List Int} {w:Nat} {v:Int} (h:setW ws w v=some ws'):(ws.getD w 0≠-1/\ws.getD w 0=v/\ws'=ws)\/(ws.getD w 0=-1/\¬v∈ws/\ws'=ws.set w v):=by
 unfold setW at h;by_cases ha:ws.getD w 0≠-1
 ·rw[ZE ha]at h;by_cases hb:ws.getD w 0=v
  ·rw[ZE hb,ZQ]at h;exact .inl ⟨ha,hb,h.symm⟩
  ·rw[ZH hb]at h;cases h
 ·rw[ZH ha]at h;by_cases hb:v∈ws
  ·rw[ZE hb]at h;cases h
  ·rw[ZH hb,ZQ]at h;exact .inr ⟨by rcases WR (ws.getD w 0=-1)with e|e;exact e;exact absurd e ha,hb,h.symm⟩
theorem Gp.set {g_ ws ws' nt:List Int} {w:Nat} {v:Int} (h:Gp g_ ws nt) (hw:w<ws.length) (hv:0<=v) (hs:setW ws w v=some ws'):Gp g_ ws' (nt++notE ws w):=by
 unfold notE;rcases aqR hs with⟨h1,h2,rfl⟩|⟨h1,h2,rfl⟩
 ·rw[ZE h1,ZZ];exact h
 ·have hl:=h.len;have ajl:¬((w:Nat):Int)∈nt:=λhm=>(h.yes _ hm).2 (by rw[Zr];exact h1);rw[ZH (by rw[h1];simp)];refine⟨by rw[Yf,hl],λk hk=>?_,?_,λk hk=>?_,λk hk hn=>?_⟩
  ·rcases Zs.1 hk with hk|hk
   ·exact h.rng k hk
   ·have:=ZS.1 hk;omega
  ·rw[Yk];exact⟨h.nd,by simp,λa ha b hb e=>by rw[ZS]at hb;subst hb;subst e;exact ajl ha⟩
  ·rcases Zs.1 hk with hk|hk
   ·obtain⟨a,b⟩:=h.yes k hk;refine⟨a,?_⟩;rw[xR ws w v hw];by_cases e:k.toNat=w
    ·rw[ZE e];omega
    ·rw[ZH e];exact b
   ·have:=ZS.1 hk;subst this;rw[Zr];refine⟨?_,by rw[xR ws w v hw,ZE rfl];omega⟩;rw[<-h.no w (by omega) ajl];exact h1
  ·have e:k≠w:=λe=>by subst e;exact hn (by simp)
   rw[xR ws w v hw,ZH e];exact h.no k hk (λhm=>hn (ZV _ hm))
def uN (ws nt:List Int):List Int:=nt.foldl (λws k=>ws.set k.toNat (-1)) ws
theorem aqS (ws nt:List Int) (k:Int):uN ws (nt++[k])=(uN ws nt).set k.toNat (-1):=by simp[uN]
theorem ac1 (nt:List Int):∀ws:List Int,(uN ws nt).length=ws.length:=by
 induction nt with
 | nil=>intro ws;rfl
 | cons k r ih=>intro ws;show(uN (ws.set k.toNat (-1)) r).length=_;rw[ih,Yf]
theorem aaT (nt:List Int):∀(ws:List Int) (j:Nat),(∀k∈nt,0<=k/\k<(ws.length:Int))->(uN ws nt).getD j 0=if((j:Nat):Int)∈nt then -1 else ws.getD j 0:=by
 induction nt with
 | nil=>intro ws j _;simp[uN]
 | cons k r ih =>
  intro ws j h;have hk:=h k (by simp);show(uN (ws.set k.toNat (-1)) r).getD j 0=_;rw[ih _ j (λm hm=>by rw[Yf];exact h m (by simp[hm])),xR ws k.toNat _ (by omega)];by_cases h1:((j:Nat):Int)∈r
  ·rw[ZE h1,ZE (by simp[h1])]
  ·rw[ZH h1];by_cases h2:j=k.toNat
   ·rw[ZE h2,ZE (by simp;left;omega)]
   ·rw[ZH h2,ZH (by simp only[ZU,not_or];exact⟨by omega,h1⟩)]
theorem aqT {g_ ws nt:List Int} (h:Gp g_ ws nt):uN ws nt=g_:=by
 have hl:=h.len;apply YT (by rw[ac1,hl]);intro j h1 h2;have hg:=aaT nt ws j (λk hk=>by have:=h.rng k hk;omega);rw[Zg,Zi h1,YL]at hg;rw[hg];by_cases hm:((j:Nat):Int)∈nt
 ·have:=(h.yes _ hm).1;rw[Zr,Zg,Zi h2,YL]at this;rw[ZE hm,this]
 ·rw[ZH hm,h.no j h2 hm,Zg,Zi h2,YL]
theorem aqU {n:Nat} {ws:List Int} (h:vk n ws) (nt:List Int) (hr:∀k∈nt,0<=k/\k<(ws.length:Int)):vk n (uN ws nt):=by
 refine⟨λw hw=>?_,λa b ha hb hne he=>?_⟩
 ·rw[aaT nt ws w hr];by_cases hm:((w:Nat):Int)∈nt
  ·rw[ZE hm];exact .inl rfl
  ·rw[ZH hm];exact h.rng w (by rwa [ac1]at hw)
 ·rw[aaT nt ws a hr]at hne he;rw[aaT nt ws b hr]at he;by_cases hm:((a:Nat):Int)∈nt
  ·rw[ZE hm]at hne;exact absurd rfl hne
  ·rw[ZH hm]at hne he;by_cases F9:((b:Nat):Int)∈nt
   ·rw[ZE F9]at he;exact absurd he hne
   ·rw[ZH F9]at he;exact h.inj a b (by rwa [ac1]at ha) (by rwa [ac1]at hb) hne he
theorem aqV {g_ ws nt:List Int} (h:Gp g_ ws nt) (i:Nat) (hi:i<nt.length):(uN ws (nt.take i)).getD nt[i].toNat 0=ws.getD nt[i].toNat 0/\ws.getD nt[i].toNat 0≠-1:=by
 have hl:=h.len;have hm:=Zp hi;have hk:=h.rng _ hm;refine⟨?_,(h.yes _ hm).2⟩;rw[aaT _ ws _ (λk hk=>by have:=h.rng k (Y8 hk);omega),ZH];intro bV;rw[show((nt[i].toNat:Nat):Int)=nt[i]by omega]at bV;obtain⟨j,hj,ej⟩:=Yl.1 bV;rw[Ww]at ej;have uV:j<i/\j<nt.length:=by rw[ZJ]at hj;omega
 exact(Xr.1 h.nd j i uV.2 hi uV.1) ej
def t_ (pj:aO->List Int) (E:List aO) (k:Nat):List (Int×Nat):=(List.range k).flatMap λe=>(pj (E.getD e bQ)).map λw=>(w,e)
theorem aaU (pj:aO->List Int) (E:List aO) (k:Nat):t_ pj E (k+1)=t_ pj E k++(pj (E.getD k bQ)).map λw=>(w,k):=by
 unfold t_;rw[YV,ZL];simp
theorem afe (pj:aO->List Int) (E:List aO) {k n:Nat} (h:k<=n):t_ pj E k <+: t_ pj E n:=by
 induction h with
 | refl=>exact List.prefix_refl _
 | step _ ih=>exact ih.trans (by rw[aaU];exact List.prefix_append _ _)
theorem aqW (pj:aO->List Int) (E:List aO):(t_ pj E E.length).map Prod.fst=E.flatMap pj:=by
 have h:∀k,k<=E.length->(t_ pj E k).map Prod.fst=(E.take k).flatMap pj:=by
  intro k;induction k with
  | zero=>intro _;simp[t_]
  | succ k ih =>
   intro hk;rw[aaU,ZK,ih (by omega),Zv (by omega),ZL,YX];congr 1;rw[Zg,Zi (by omega)];simp[Function.comp_def]
 have:=h E.length (Zj _);rwa [ZY]at this
structure I9 (W:Nat) (S:List (Int×Nat)) (fl:List Int):Prop where
 len:fl.length=W
 hit:∀p∈S,fl.getD p.1.toNat 0=(p.2:Int)
 no:∀w,w<W->fl.getD w 0=-1\/∃e,((w:Int),e)∈S/\fl.getD w 0=(e:Int)
theorem I9.start (W:Nat):I9 W [] (List.replicate W (-1)):=⟨by simp,by simp,λw hw=>.inl (by simp[Zg,hw])⟩
theorem I9.put {W:Nat} {S:List (Int×Nat)} {fl:List Int} (h:I9 W S fl) {m e:Nat} (hm:m<W) (hr:∀p∈S,0<=p.1) (hn:¬(m:Int)∈S.map Prod.fst):I9 W (S++[((m:Int),e)]) (fl.set m (e:Int)):=by
 have hl:=h.len;have hg:=xR fl m (e:Int) (by omega);refine⟨by rw[Yf];exact hl,λp hp=>?_,λw hw=>?_⟩
 ·rw[hg];rcases Zs.1 hp with hp|hp
  ·have h0:=hr p hp;rw[ZH (λe=>hn (ZM.2 ⟨p,hp,by omega⟩))];exact h.hit p hp
  ·rw[ZS]at hp;subst hp;rw[ZE (by simp)]
 ·rw[hg];by_cases e1:w=m
  ·subst e1;rw[ZE rfl];exact .inr ⟨e,by simp,rfl⟩
  ·rw[ZH e1];rcases h.no w hw with h1|⟨e',h1,h2⟩
   ·exact .inl h1
   ·exact .inr ⟨e',by simp[h1],h2⟩
theorem I9.fin {pj:aO->List Int} {E:List aO} {W:Nat} {fl:List Int} (h:I9 W (t_ pj E E.length) fl):Iz pj E W fl:=by
 refine⟨h.len,λe he w hw=>h.hit (w,e) (Z6.2 ⟨e,ZW.2 he,ZM.2 ⟨w,hw,rfl⟩⟩),λw hw=>?_⟩;rcases h.no w hw with h1|⟨e,h1,h2⟩
 ·exact .inl h1
 ·obtain⟨e',h3,h4⟩:=Z6.1 h1;obtain⟨w',h5,h6⟩:=ZM.1 h4;simp only[YG]at h6;obtain⟨rfl,rfl⟩:=h6;exact .inr ⟨e',ZW.1 h3,h2,h5⟩
theorem ajm {pj:aO->List Int} {E:List aO} (dI:(E.flatMap pj).Nodup) {k j:Nat} (hk:k<E.length) (hj:j<(pj (E.getD k bQ)).length) :
  ¬(pj (E.getD k bQ))[j]∈(t_ pj E k++((pj (E.getD k bQ)).take j).map λw=>(w,k)).map Prod.fst:=by
 have hp:(t_ pj E k++((pj (E.getD k bQ)).take (j+1)).map λw=>(w,k)) <+: t_ pj E E.length:=by
  refine List.IsPrefix.trans ?_ (afe pj E hk);rw[aaU];exact(List.prefix_append_right_inj _).2 ((List.take_prefix _ _).map _)
 have h1:=(hp.map Prod.fst).sublist.nodup (by rw[aqW];exact dI);rw[Zv hj,ZK (l₁:=List.take j _),<-Zz,ZK,Yk]at h1;intro hm;exact h1.2.2 _ hm _ (by simp) rfl
end Go.Proofs.YtkhpobekconobaaGreat
