import Derived.Test.YtkhpobekconobaaGreatHAM
set_option linter.all false
set_option maxRecDepth 100000
set_option maxHeartbeats 0
namespace Go.Proofs.YtkhpobekconobaaGreat
open Go.RowKit
theorem aqk (a b:Nat) (w:World):Calls Tryz.prog 118 #[.int .i64 a,.int .i64 b] w λe w'=>e=.returned (.int .i64 ((Nat.max a b:Nat):Int))/\∃m,w'=w.drewN m:=by
 rw[<-apK];go_enter Tryz.func118,Tryz.ntmps118;go_wp2;all_goals go_ret
 ·exact⟨rfl,0,rfl⟩
 ·exact⟨rfl,0,rfl⟩
theorem aql (x y:Nat):(if(x:Int)<(y:Int)then(x:Int)else(y:Int))=((Nat.min x y:Nat):Int):=by
 split
 ·rw[show Nat.min x y=x from YR (by omega)]
 ·rw[show Nat.min x y=y from Wd (by omega)]
theorem aqm (a b:Nat) (w:World):Calls Tryz.prog 119 #[.int .i64 a,.int .i64 b] w λe w'=>e=.returned (.int .i64 ((Nat.min a b:Nat):Int))/\∃m,w'=w.drewN m:=by
 rw[<-aql];go_enter Tryz.func119,Tryz.ntmps119;go_wp2;all_goals go_ret
 ·exact⟨rfl,0,rfl⟩
 ·exact⟨rfl,0,rfl⟩
def aeT (g:aF) (tz:List Int) (w:World) (e:Ending) (w':World):Prop:=∃ve vi vo vt,e=.returned (.tuple #[.agg #[.int .i64 g.aB,ve,vi,vo],vt])/\dB w' w.heap.size ve vi vo g/\Rw w' w.heap.size vt tz/\Below w.heap.size w w'
theorem aiV (W:Nat) (E:List aO) (I O:List Int) (ve vi vo va vb:Value) (ps:List (Nat×Nat)) (w:World) (hR:dM w ve vi vo ⟨W,E,I,O⟩) (hA:Bg ⟨W,E,I,O⟩ W)
  (ha:aU w va (nI (ps.map Prod.fst))) (hb:aU w vb (nI (ps.map Prod.snd))) (hp:∀p∈ps,p.1<W/\p.2<W) (hl:ps.length<=1000) :
  Calls Tryz.prog 83 #[.agg #[.int .i64 W,ve,vi,vo],va,vb] w (aeT (tV ⟨W,E,I,O⟩ W ps) (kY ⟨W,E,I,O⟩ W ps) w):=by
 obtain⟨ae,ce,rfl⟩:=hR.ed.slice;obtain⟨ai,ci,rfl⟩:=hR.inn.slice;obtain⟨ao,co,rfl⟩:=hR.out.slice;obtain⟨pa,ca,rfl,hca,FZ⟩:=ha;obtain⟨pb,cb,rfl,hcb,aeU⟩:=hb;have hla:(nI (ps.map Prod.fst)).length=ps.length:=by rw[tN,ZG]
 have hlb:(nI (ps.map Prod.snd)).length=ps.length:=by rw[tN,ZG]
 simp only[hla,hlb]at FZ aeU hca hcb ⊢;have aqn:=Za FZ;have aqo:=Za aeU;clear FZ aeU;obtain⟨i0,hi,hz0,hz1,hz2⟩:=Yg yV;dsimp only at hR ⊢;have aeV:=hA.le;have aQ:=aH w (.cells #[.int .i64 W,.slice ae E.length ce,.slice ai I.length ci,.slice ao O.length co] 33);have aT:=aH (w.alloc (.cells #[.int .i64 W,.slice ae E.length ce,.slice ai I.length ci,.slice ao O.length co] 33)) (.cells #[.int .i64 0,.slice none 0 0,.slice none 0 0,.slice none 0 0] 33);have hB:=aQ.trans (aT.mono aQ.size);have kG:=(Bk.new w 33 #[.int .i64 W,.slice ae E.length ce,.slice ai I.length ci,.slice ao O.length co]).keep aT;have kR:=Bk.new (w.alloc (.cells #[.int .i64 W,.slice ae E.length ce,.slice ai I.length ci,.slice ao O.length co] 33)) 33 #[.int .i64 0,.slice none 0 0,.slice none 0 0,.slice none 0 0];simp only[Zn]at kR;clear aQ aT;obtain⟨u0,Nq⟩:∃u,u=((w.alloc (.cells #[.int .i64 W,.slice ae E.length ce,.slice ai I.length ci,.slice ao O.length co] 33)).alloc (.cells #[.int .i64 0,.slice none 0 0,.slice none 0 0,.slice none 0 0] 33)):=⟨_,rfl⟩
 rw[<-Nq]at hB kG kR;have rW:=Za hA;have HP:=Za hp;clear hA hp;go_enter Tryz.func83,Tryz.ntmps83;go_wp2_with (at_make;refine Y7 ?_)
 refine Za ?_;rw[<-Nq];have hsz:u0.heap.size=w.heap.size+1+1:=by rw[Nq];simp
 clear Nq;refine Yo _ rfl _ _ _ rfl u0.heap.size 3 i0 _ 1 Tryz.underlying23 hi hz0 hz1 _ _ _ _ W rfl rfl rfl rfl (by rw[hz2];omega) (by unfold maxLen;omega) (Zj _) ?_;intro w1 hown hgr;have hz:=vZ (f:=gU) (0:Int) W (sz:=1) (by omega) rfl;have hb1:Below u0.heap.size u0 w1:=(Zl _ _).grown hgr (Zj _) (by simp);have hr1:Rw w1 u0.heap.size (.slice (some ⟨u0.heap.size,0,none⟩) W W) (List.replicate W 0):=by
  unfold Rw;rw[Yi,<-hz];exact hown
 have HR1:=Za hr1;have PX:=Za hsz;clear hz hown hgr hr1;obtain⟨g0,hg0⟩:∃n,u0.heap.size=n:=⟨_,rfl⟩
 have HG0:=Za hg0;rw[hg0]at HR1 ⊢;clear hg0;go_wp2_with fail
 go_loopw [28] (λi wr=>∃k:Nat,k<=W/\i=.int .i64 k/\Rw wr g0 (.slice (some ⟨g0,0,none⟩) W W) ((dW W).take k++(List.replicate W (0:Int)).drop k)/\Below u0.heap.size u0 wr) (λi _=>W-(intOf i).toNat)
 case atStart=>exact⟨0,Zw _,rfl,by simpa using HR1.out,hb1⟩
 case round =>
  clear HR1 hb1;obtain⟨k,hk,rfl,hrow,aI⟩:=hrel;by_cases hlt:k<W
  ·obtain⟨⟨d0,f0⟩,cZ⟩:=hrow.fill (oh W) (by simp) hlt;rw[ab4]at cZ;rw[Z9]at d0;have HS:=Za cZ;have Ku:=Za (show u0.heap.size<=g0 by have:=HG0.out;omega);clear hrow cZ;go_wp2;go_roundw
   case rel=>exact⟨k+1,by omega,by go_num,HS.out,aI.setCell Ku.out _⟩
   case measure=>simp[intOf];omega
  ·obtain rfl:k=W:=by omega
   have hF:=hrow.full (oh _) (by simp);rw[ail]at hF;have HF:=Za hF;have hb1:=aI;clear hrow hF aI;go_wp2_with fail
   go_loopw [38] (λi wr=>∃j:Nat,j<=ps.length/\i=.int .i64 j/\Rw wr g0 (.slice (some ⟨g0,0,none⟩) k k) (nI (yw k ps j))/\Below u0.heap.size u0 wr) (λi _=>ps.length-(intOf i).toNat)
   case atStart=>exact⟨0,Zw _,rfl,HF.out,hb1⟩
   case round =>
    clear HF hb1;obtain⟨j,hj,rfl,hrow,aI⟩:=hrel;obtain⟨iQ,mG⟩:=apE k ps j HP.out;by_cases oW:j<ps.length
    ·obtain⟨x1,x2⟩:=HP.out _ (Zp oW);obtain⟨ba,oa,rfl,ha0,ca0⟩:=aqn.out j oW;obtain⟨bb,ob,rfl,hb0,cb0⟩:=aqo.out j oW;have hsu:=ain k ps j oW;rw[Nv]at ca0 cb0;simp only[Zg,XJ,Zi oW,VK,YL]at ca0 cb0;obtain⟨⟨p,q⟩,F8⟩:∃e,ps[j]=e:=⟨_,rfl⟩
     rw[F8]at ca0 cb0 x1 x2 hsu;have b_:=hB.trans (aI.mono hB.size);replace ca0:=aK b_ ca0;replace cb0:=aK b_ cb0;rw[Z2]at ca0 cb0;obtain⟨cl,Gl⟩:∃cl,yw k ps j=cl:=⟨_,rfl⟩
     rw[Gl]at hrow iQ mG hsu;have uM:(nI cl).length=k:=by rw[tN,mG]
     have hrow2:wr.ownsRow g0 3 1 (.slice (some ⟨g0,0,none⟩) k k) k ((nI cl).flatMap gU):=by unfold Rw at hrow;rw[uM]at hrow;exact hrow
     have d1:=mV sF hrow2 p 0 (by omega) (by omega);have d2:=mV sF hrow2 q 0 (by omega) (by omega);simp only[gU,Z2,YC,Zc,Nv]at d1 d2;have z1:=cell_lt ca0;have z2:=cell_lt cb0;have z3:=cell_lt d1;have IX:=Za hsu;have Kv:=Za hrow;have wX:=Za (Zb iQ mG);clear iQ mG Gl hrow hrow2 hsu uM F8;generalize hX:cl.getD p 0=X at *;generalize hY:cl.getD q 0=Y at *;have vJ:=Za (Zb hX hY);clear hX hY;have hJ:joinL cl p q=cl.map λx=>if x=Nat.max X Y then Nat.min X Y else x:=by unfold joinL;rw[vJ.out.1,vJ.out.2]
     have HJ:=Za hJ;have avY:=aI.size;clear hJ;go_wp2_with fail
     go_quiet (fail)
     generalize wr=wo at *;obtain⟨M,hM⟩:∃M,Nat.max X Y=M:=⟨_,rfl⟩
     obtain⟨N,hN⟩:∃N,Nat.min X Y=N:=⟨_,rfl⟩
     have HJ2:=Za (show joinL cl p q=cl.map λx=>if x=M then N else x by rw[HJ.out,hM,hN]);have HMQ:=Za (λu=>(aqk X Y u).mono (R':=λe w'=>e=.returned (.int .i64 (M:Int))/\∃m,w'=u.drewN m) (by rw[hM];exact λ_ _ h=>h));have HNQ:=Za (λu=>(aqm X Y u).mono (R':=λe w'=>e=.returned (.int .i64 (N:Int))/\∃m,w'=u.drewN m) (by rw[hN];exact λ_ _ h=>h));clear HJ hM hN;obtain⟨J,hJ⟩:∃J,joinL cl p q=J:=⟨_,rfl⟩
     have hJl:J.length=k:=by rw[<-hJ,TI,wX.out.2]
     have HJL:=Za (Zb hJl hJ);rw[hJ]at HJ2 IX;clear hJ hJl z1 z2 z3 ca0 cb0 d1 d2;go_wp2_with fail
     go_loopw [57] (λi wq=>∃t:Nat,t<=k/\i=.int .i64 t/\Rw wq g0 (.slice (some ⟨g0,0,none⟩) k k) ((nI J).take t++(nI cl).drop t)/\Below u0.heap.size u0 wq) (λi _=>k-(intOf i).toNat)
     case atStart=>exact⟨0,Zw _,rfl,by simpa using Kv.out.keep (YU (Zl _ _) _),YU aI _⟩
     case round =>
      clear Kv aI;obtain⟨t,ht,rfl,hrow,aI⟩:=hrel;have jH:(nI J).length=k:=by rw[tN];exact HJL.out.1
      have jI:(nI cl).length=k:=by rw[tN];exact wX.out.2
      by_cases zL:t<k
      ·have iQ:=wX.out.2;have TM:J.getD t 0=if cl.getD t 0=M then N else cl.getD t 0:=by
        rw[HJ2.out];simp[Zg,iQ,zL]
       have jS:=λ(u:World) (hu:Rw u g0 (.slice (some ⟨g0,0,none⟩) k k) ((nI J).take t++(nI cl).drop t))=>hu.fill jH jI zL;simp only[Nv]at jS;obtain⟨⟨d0,f0⟩,-⟩:=jS wr hrow;have yK:=take_same (nI J) (nI cl) t (by omega) (by omega);rw[Nv,Nv]at yK;have Ku:=Za (show u0.heap.size<=g0 by have:=HG0.out;omega);have z3:=cell_lt d0;by_cases hc:cl.getD t 0=M
       ·rw[ZE hc]at TM;rw[TM]at jS;rw[hc]at d0;have HQ:=Za (λn=>Zb (jS (wr.drewN n) (hrow.keep (YU (Zl _ _) _))).2 (YI (p:=⟨g0,t,none⟩) (YU aI n) Ku.out (.int .i64 (N:Int))));clear jS yK hrow aI hc TM iQ jH jI;go_wp2_with fail
        go_quiet ((go_at_call 118;refine Calls.quiet_of (HMQ.out _)))
        go_wp2_with fail
        refine(HNQ.out _).mono ?_;rintro e w2⟨rfl,m,rfl⟩;go_wp2;go_roundw
        case rel=>exact⟨t+1,by omega,by go_num,(HQ.out _).1,(HQ.out _).2⟩
        case measure=>simp[intOf];omega
       ·rw[ZH hc]at TM;rw[TM]at yK;have PY:=Za (yK rfl);obtain⟨Z,hZ⟩:∃Z,cl.getD t 0=Z:=⟨_,rfl⟩
        rw[hZ]at d0 hc;have hne:¬((Z:Int)=(M:Int)):=by omega
        clear hZ;have HQ:=Za (λn=>Zb (hrow.keep (YU (Zl _ _) n)) (YU aI n));clear jS yK hrow aI TM iQ jH jI;go_wp2_with fail
        go_quiet ((go_at_call 118;refine Calls.quiet_of (HMQ.out _)))
        go_wp2;go_roundw
        case rel=>exact⟨t+1,by omega,by go_num,by rw[<-PY.out];exact(HQ.out _).1,(HQ.out _).2⟩
        case measure=>simp[intOf];omega
      ·obtain rfl:t=k:=by omega
       have hF:=hrow.full jH jI;rw[<-IX.out]at hF;have HF:=Za hF;clear hrow hF;go_wp2;go_roundw
       case rel=>exact⟨j+1,by omega,by go_num,HF.out,aI⟩
       case measure=>simp[intOf];omega
    ·obtain rfl:j=ps.length:=by omega
     have hF:=hrow;rw[show yw k ps ps.length=A_ (wU k) ps from by unfold yw;rw[ZY]]at hF iQ mG;obtain⟨cl,Gl⟩:∃cl,A_ (wU k) ps=cl:=⟨_,rfl⟩
     rw[Gl]at hF iQ mG;have wX:=Za (Zb iQ (Zb mG Gl));have HF:=Za hF;clear hrow hF iQ mG Gl;have b_:=hB.trans (aI.mono hB.size);replace kG:=kG.keep aI;replace kR:=kR.keep aI;clear aI;obtain⟨iG,fG,zG⟩:=kG.cell;go_wp2_with fail
     have hgR:=hR.keep b_;refine(aex ⟨(k:Int),E,I,O⟩ ae ai ao ce ci co wr hgR rW.out.ok.ok ⟨by show(0:Int)<=(k:Int);omega,by show(k:Int)<=1000;omega⟩ rW.out.rng rW.out.cnt.1 rW.out.cnt.2).mono ?_;unfold aaz;rintro e w2⟨v1,v2,rfl,CQ,hv2,hb2⟩;rw[show(aF.aB ⟨(k:Int),E,I,O⟩).toNat=k from Zr k]at CQ hv2;obtain⟨p1,y1,rfl⟩:=CQ.slice;obtain⟨p2,y2,rfl⟩:=hv2.slice;rw[DK]at *;replace b_:=b_.trans (hb2.mono b_.size);have HF2:=Za (HF.out.keep hb2);clear HF iG fG zG hgR;replace kG:=kG.keep hb2;replace kR:=kR.keep hb2;clear hb2;obtain⟨iG,fG,zG⟩:=kG.cell;obtain⟨q0,Kw,yx,rQ,rX⟩:=Yg aal;go_wp2_with (at_make;refine Y7 ?_)
     refine Za ?_;refine Yo _ rfl _ _ _ rfl w2.heap.size 4 q0 _ 1 Tryz.underlying149 Kw yx rQ _ _ _ _ k rfl rfl rfl rfl (by rw[rX];omega) (by unfold maxLen;omega) (Zj _) ?_;intro w3 hown hgr;have hz:=vZ (f:=nN) false k (sz:=1) (by omega) rfl;have hb3:Below w2.heap.size w2 w3:=(Zl _ _).grown hgr (Zj _) (by simp);obtain⟨g1,hg1⟩:∃n,w2.heap.size=n:=⟨_,rfl⟩
     have HG1:=Za hg1;have PZ:w3.ownsRow g1 4 1 (.slice (some ⟨g1,0,none⟩) k k) k ((mF k (Nw cl (IK ⟨k,E,I,O⟩) 0)).flatMap nN):=by
      show w3.ownsRow g1 4 1 (.slice (some ⟨g1,0,none⟩) k k) k ((mF k []).flatMap nN);rw[SE,<-hz,<-hg1];exact hown
     have TN:=Za PZ;rw[hg1]at hown ⊢;have HV:=Za (Zb CQ hv2);have P5:=Za (Zb kG kR);clear hz hgr PZ hg1 hown Kw yx rQ rX iG fG zG kG kR CQ hv2;go_wp2_with fail
     go_loopw [86] (λi wr=>∃t:Nat,t<=k/\i=.int .i64 t/\wr.ownsRow g1 4 1 (.slice (some ⟨g1,0,none⟩) k k) k ((mF k (Nw cl (IK ⟨k,E,I,O⟩) t)).flatMap nN)/\Below w2.heap.size w2 wr) (λi _=>k-(intOf i).toNat)
     case atStart=>exact⟨0,Zw _,rfl,TN.out,hb3⟩
     case round =>
      clear TN hb3;obtain⟨t,ht,rfl,hrow,aI⟩:=hrel;by_cases aiW:t<k
      ·obtain⟨iQ,mG,hce⟩:=wX.out;have hle:=iQ.le t (by omega);have jh:=HF2.out.keep aI;have uM:(nI cl).length=k:=by rw[tN,mG]
       unfold Rw at jh;rw[uM]at jh;have d1:=mV sF jh t 0 (by omega) (by omega);simp only[gU,Z2,YC,Zc,Nv]at d1;obtain⟨⟨px1,cx1,ex1,-,at1⟩,px2,cx2,ex2,-,at2⟩:=HV.out;simp only[Zx]at ex1 ex2;obtain⟨rfl,-,rfl⟩:=ex1;obtain⟨rfl,-,rfl⟩:=ex2;obtain⟨b1,o1,rfl,_,f1⟩:=at1 t (by rw[DK];exact aiW);obtain⟨b2,o2,rfl,_,f2⟩:=at2 t (by rw[DK];exact aiW);rw[Tm,Z2]at f1 f2;replace f1:=aK aI f1;replace f2:=aK aI f2;clear at1 at2;have DL:=apH ⟨k,E,I,O⟩ t;have jH:=Xu (a:=(t:Int)) (l:=aF.iM ⟨k,E,I,O⟩);have jI:=Xu (a:=(t:Int)) (l:=aF.iZ ⟨k,E,I,O⟩);have hc1:=rW.out.cnt;have P6:=apG cl (IK ⟨k,E,I,O⟩) t;generalize List.count (t:Int) (aF.iM ⟨k,E,I,O⟩)=A at *;generalize List.count (t:Int) (aF.iZ ⟨k,E,I,O⟩)=D at *;have hw:IntKind.i64.wrap ((A:Int)+D)=(A:Int)+D:=Z8 _ (by omega);obtain⟨Z,hZ⟩:∃Z,cl.getD t 0=Z:=⟨_,rfl⟩
       rw[hZ]at d1 hle P6;have z1:=cell_lt d1;have z2:=cell_lt f1;have z3:=cell_lt f2;have hZk:Z<k:=by omega
       have d3:=mV Es hrow Z 0 (by rw[AA];exact hZk) (by omega);have fr:=hrow.frozenAt (Z*1);simp only[nN,Z2,YC,Zc,JM]at d3 fr;have z4:=cell_lt d3;by_cases hm:IK ⟨k,E,I,O⟩ t=true
       ·rw[ZE hm]at P6;have P7:(0:Int)<(A:Int)+D:=DL.2 hm;have HQ:=Za (λn=>Zb (Ap Es (jL (YU (Zl _ _) n) hrow) Z 0 Z (by rw[AA];exact hZk) (by omega) (by omega) (.bool true) true rfl) (YI (p:=⟨g1,Z,none⟩) (YU aI n) (by show w2.heap.size<=g1;have:=HG1.out;omega) (.bool true)));have HVS:=Za (Zb P6 (OZ k (Nw cl (IK ⟨k,E,I,O⟩) t) Z hZk));clear iQ mG hce jh uM DL jH jI hc1 P6 hZ hm hrow aI;go_wp2_with fail
        go_quiet (fail)
        go_wp2;go_roundw
        case rel=>exact⟨t+1,by omega,by go_num,by rw[HVS.out.1,HVS.out.2];exact(HQ.out _).1,(HQ.out _).2⟩
        case measure=>simp[intOf];omega
       ·rw[ZH hm,ZZ]at P6;have P7:¬(0:Int)<(A:Int)+D:=λh=>hm (DL.1 h);have avZ:(A:Int)+D<=0:=by omega
        have HQ:=Za (λn=>Zb (jL (YU (Zl _ _) n) hrow) (YU aI n));have HVS:=Za P6;clear iQ mG hce jh uM DL jH jI hc1 P6 hZ hm hrow aI;go_wp2_with fail
        go_quiet (fail)
        go_wp2;go_roundw
        case rel=>exact⟨t+1,by omega,by go_num,by rw[HVS.out];exact(HQ.out _).1,(HQ.out _).2⟩
        case measure=>simp[intOf];omega
      ·obtain rfl:t=k:=by omega
       have aiX:=apI ⟨(t:Int),E,I,O⟩ cl t rW.out.rng;obtain⟨us,P8⟩:∃us,Gh ⟨(t:Int),E,I,O⟩ cl=us:=⟨_,rfl⟩
       have HUS:=Za (show ∀u,Below wr.heap.size wr u->∀r,r<t->u.cell? ⟨g1,r,none⟩=some (.bool (us r))from λu hu r hr=>by
        have:=mV Es (jL hu hrow) r 0 (by rw[AA];exact hr) (by omega);simp only[nN,Z2,YC,Zc,JM]at this;rw[this,aiX r,P8])
       have HUE:=Za P8;have HCR:=Za (show ∀u,Below wr.heap.size wr u->∀r,r<t->u.cell? ⟨g0,r,none⟩=some (.int .i64 ((cl.getD r 0:Nat):Int))from λu hu r hr=>by
        have uM:(nI cl).length=t:=by rw[tN,wX.out.2.1]
        have jh:=(HF2.out.keep aI).keep hu;unfold Rw at jh;rw[uM]at jh;have:=mV sF jh r 0 (by omega) (by omega);simp only[gU,Z2,YC,Zc,Nv]at this;exact this)
       have aeW:0<t->g0<wr.heap.size:=λh=>cell_lt (HCR.out wr (Zl _ _) 0 h);have aeX:0<t->g1<wr.heap.size:=λh=>cell_lt (HUS.out wr (Zl _ _) 0 h);replace b_:=b_.trans (aI.mono b_.size);have kG:=P5.out.1.keep aI;have kR:=P5.out.2.keep aI;clear HF2 P5 HV hrow aI P8 aiX;have zE:=Za b_.size;generalize wr=wE at *;obtain⟨iG,fG,zG⟩:=kG.cell;go_wp2_with (at_make;refine Y7 ?_)
       refine Za ?_;refine Yo _ rfl _ _ _ rfl wE.heap.size 3 i0 _ 1 Tryz.underlying23 hi hz0 hz1 _ _ _ _ t rfl rfl rfl rfl (by rw[hz2];omega) (by unfold maxLen;omega) (Zj _) ?_;intro w5 hown hgr;have hz:=vZ (f:=gU) (0:Int) t (sz:=1) (by omega) rfl;have bH:Below wE.heap.size wE w5:=(Zl _ _).grown hgr (Zj _) (by simp);have jP:Rw w5 wE.heap.size (.slice (some ⟨wE.heap.size,0,none⟩) t t) (List.replicate t 0):=by
        unfold Rw;rw[Yi,<-hz];exact hown
       obtain⟨g2,hg2⟩:∃n,wE.heap.size=n:=⟨_,rfl⟩
       have HG2:=Za hg2;have Ky:=Za (Zb aeW aeX);rw[hg2]at jP ⊢;have Ey:=Za jP;have P5:=Za (Zb kG kR);clear hz hgr jP hg2 hown hi hz0 hz1 hz2 iG fG zG kG kR aeW aeX;go_wp2_with fail
       go_loopw [20,110] (λn i wr=>∃s:Nat,s<=t/\n=.int .i64 (CW cl us s:Nat)/\i=.int .i64 s/\Rw wr g2 (.slice (some ⟨g2,0,none⟩) t t) ((zM cl us t).take s++(List.replicate t (0:Int)).drop s)/\Below wE.heap.size wE wr) (λ_ i _=>t-(intOf i).toNat)
       case atStart=>exact⟨0,Zw _,rfl,rfl,by simpa using Ey.out,bH⟩
       case round =>
        clear Ey bH;obtain⟨s,hs,rfl,rfl,hrow,aI⟩:=hrel;by_cases aaO:s<t
        ·have d1:=HCR.out _ aI s aaO;have d2:=HUS.out _ aI s aaO;have jS:=hrow.fill (Pz cl us t) (by simp) aaO;simp only[aey,Z9]at jS;obtain⟨⟨d0,f0⟩,cZ⟩:=jS;have yK:=take_same (zM cl us t) (List.replicate t (0:Int)) s (by rw[Pz];exact aaO) (by simp;exact aaO);rw[aey,Z9]at yK;have z1:=cell_lt d1;have z2:=cell_lt d2;have z3:=cell_lt d0;have Kz:=aqp (cl:=cl) (us:=us) (w:=s);have zZ:=aqr (cl:=cl) (us:=us) (w:=s);have uM:=aeP (cl:=cl) (us:=us) (w:=s);have jH:num1 cl us s=if cl.getD s 0=s/\us s=true then(CW cl us s:Int)else 0:=rfl
         obtain⟨Z,hZ⟩:∃Z,cl.getD s 0=Z:=⟨_,rfl⟩
         rw[hZ]at d1 zZ uM jH;have Ku:=Za (show wE.heap.size<=g2 by have:=HG2.out;omega);by_cases hc:Z=s/\us s=true
         ·rw[ZE hc]at jH;rw[jH]at cZ;have aiY:=uM hc.1 hc.2;obtain⟨hc1,hc2⟩:=hc;subst hc1;rw[hc2]at d2;have HN:=Za aiY;have HS:=Za (Zb cZ (YI (p:=⟨g2,Z,none⟩) aI Ku.out (.int .i64 (CW cl us Z:Nat))));generalize CW cl us Z=K at *;have hw:IntKind.i64.wrap ((K:Int)+1)=(K:Int)+1:=Z8 _ (by omega);clear cZ yK hrow aI zZ uM aiY jH hZ hc2;go_wp2;go_roundw
          case rel=>exact⟨Z+1,by omega,by rw[HN.out];rfl,by go_num,HS.out.1,HS.out.2⟩
          case measure=>simp[intOf];omega
         ·rw[ZH hc]at jH;have HN:=Za (Zb (zZ hc) (yK jH));have HS:=Za (Zb hrow aI);by_cases hc1:Z=s
          ·have hu:us s=false:=by
            cases hh:us s
            ·rfl
            ·exact absurd ⟨hc1,hh⟩ hc
           rw[hu]at d2;subst hc1;clear cZ yK hrow aI zZ uM jH hZ hc hu;go_wp2;go_roundw
           case rel=>exact⟨Z+1,by omega,by rw[HN.out.1],by go_num,by rw[<-HN.out.2];exact HS.out.1,HS.out.2⟩
           case measure=>simp[intOf];omega
          ·have hne:¬((Z:Int)=(s:Int)):=by omega
           clear cZ yK hrow aI zZ uM jH hZ hc;go_wp2;go_roundw
           case rel=>exact⟨s+1,by omega,by rw[HN.out.1],by go_num,by rw[<-HN.out.2];exact HS.out.1,HS.out.2⟩
           case measure=>simp[intOf];omega
        ·obtain rfl:s=t:=by omega
         have HF6:=Za (hrow.full (Pz _ _ _) (by simp));have z_:=Za aI;clear hrow aI;go_wp2_with fail
         go_loopw [134] (λi wr=>∃t:Nat,t<=s/\i=.int .i64 t/\Rw wr g2 (.slice (some ⟨g2,0,none⟩) s s) ((oU cl us s).take t++(zM cl us s).drop t)/\Below wE.heap.size wE wr) (λi _=>s-(intOf i).toNat)
         case atStart=>exact⟨0,Zw _,rfl,by simpa using HF6.out,z_.out⟩
         case round =>
          clear HF6 z_;obtain⟨t,ht,rfl,hrow,aI⟩:=hrel;by_cases aeY:t<s
          ·have d1:=HCR.out _ aI t aeY;obtain⟨iQ,mG,hce⟩:=wX.out;have hle:=iQ.le t (by omega);have Ez:=av1 (us:=us) iQ (w:=t) (by omega);obtain⟨Z,hZ⟩:∃Z,cl.getD t 0=Z:=⟨_,rfl⟩
           rw[hZ]at d1 hle Ez;have hZs:Z<s:=by omega
           have d2:=HUS.out _ aI Z hZs;have lD:((oU cl us s).take t++(zM cl us s).drop t).length=s:=by simp[uI,Pz];omega
           have hrow2:wr.ownsRow g2 3 1 (.slice (some ⟨g2,0,none⟩) s s) s (((oU cl us s).take t++(zM cl us s).drop t).flatMap gU):=by unfold Rw at hrow;rw[lD]at hrow;exact hrow
           have d3:=mV sF hrow2 Z 0 (by omega) (by omega);have d4:=mV sF hrow2 t 0 (by omega) (by omega);have f4:=hrow2.frozenAt (t*1);simp only[gU,Z2,YC,Zc]at d3 d4 f4;rw[apJ cl us s t Z hle aeY]at d3;replace d4:∃U:Int,wr.cell? ⟨g2,t,none⟩=some (.int .i64 U):=⟨_,d4⟩
           obtain⟨U,d4⟩:=d4;obtain⟨V,hV⟩:∃V,(if Z<t then Ny cl us Z else num1 cl us Z)=V:=⟨_,rfl⟩
           rw[hV]at d3 Ez;have KA:=ahw (oU cl us s) (zM cl us s) t (by rw[uI,Pz]) (by rw[uI];exact aeY);rw[aaD,Ez]at KA;have h1:=Ap sF hrow2 t 0 t (by omega) (by omega) (by omega) (.int .i64 V) V rfl;have h2:=Ap sF h1 t 0 t (by rw[Yf];omega) (by omega) (by omega) (.int .i64 (-1)) (-1) rfl;rw[List.set_set]at h2;have z1:=cell_lt d1;have z2:=cell_lt d2;have z3:=cell_lt d3;have aiZ:=HG2.out;have aeW:=Ky.out.1 (by omega);have aeX:=Ky.out.2 (by omega);have hne0:¬g0=g2:=by omega
           have NH:¬g1=g2:=by omega
           have qW:wE.heap.size<=g2:=by omega
           have dA:=YI (p:=⟨g2,t,none⟩) aI qW (.int .i64 V);have bJ:=YI (p:=⟨g2,t,none⟩) dA qW (.int .i64 (-1));have Eo:((oU cl us s).take (t+1)++(zM cl us s).drop (t+1)).length=s:=by simp[uI,Pz];omega
           cases hu:us Z
           ·rw[hu]at d2 KA;rw[ZH (by decide)]at KA;rw[KA]at h2;have HS:=Za (show Rw ((wr.setCell ⟨g2,t,none⟩ (.int .i64 V)).setCell ⟨g2,t,none⟩ (.int .i64 (-1))) g2 (.slice (some ⟨g2,0,none⟩) s s) ((oU cl us s).take (t+1)++(zM cl us s).drop (t+1))/\Below wE.heap.size wE ((wr.setCell ⟨g2,t,none⟩ (.int .i64 V)).setCell ⟨g2,t,none⟩ (.int .i64 (-1)))from⟨by unfold Rw;rw[Eo];exact h2,bJ⟩);clear iQ mG hce Ez hZ hrow hrow2 lD hV KA h1 h2 dA bJ Eo hu aI aiZ;go_wp2;go_roundw
            case rel=>exact⟨t+1,by omega,by go_num,HS.out.1,HS.out.2⟩
            case measure=>simp[intOf];omega
           ·rw[hu]at d2 KA;rw[ZE rfl]at KA;rw[KA]at h1;have HS:=Za (show Rw (wr.setCell ⟨g2,t,none⟩ (.int .i64 V)) g2 (.slice (some ⟨g2,0,none⟩) s s) ((oU cl us s).take (t+1)++(zM cl us s).drop (t+1))/\Below wE.heap.size wE (wr.setCell ⟨g2,t,none⟩ (.int .i64 V))from⟨by unfold Rw;rw[Eo];exact h1,dA⟩);clear iQ mG hce Ez hZ hrow hrow2 lD hV KA h1 h2 dA bJ Eo hu aI aiZ;go_wp2;go_roundw
            case rel=>exact⟨t+1,by omega,by go_num,HS.out.1,HS.out.2⟩
            case measure=>simp[intOf];omega
          ·obtain rfl:t=s:=by omega
           have P9:=hrow.full (uI _ _ _) (Pz _ _ _);replace b_:=b_.trans (aI.mono b_.size);have kG:=P5.out.1.keep aI;have kR:=P5.out.2.keep aI;have HC:=Za (aib ⟨(t:Int),E,I,O⟩ _ _ _ _ (oU cl us t) (CW cl us t:Nat) wr (hR.keep b_) rW.out.ok P9.at (by rw[uI];exact aeV) (λk hk=>by rw[uI];exact rW.out.rng k hk));have NJ:=Za P9;clear hrow aI P5 P9;obtain⟨iG,fG,zG⟩:=kG.cell;go_wp2_with fail
           refine HC.out.mono ?_;intro q w9 hq;obtain⟨x1,y1',x2,y2',x3,y3,rfl,yA,dX⟩:=hq.q;clear hq HC;have aeZ:=b_.trans (dX.mono b_.size);have eU:=kR.lt;replace kR:=kR.keep dX;have HGo:=Za yA.o;have HVt:=Za (NJ.out.keep dX);clear iG fG zG yA kG;obtain⟨iR,fR,zR⟩:=kR.cell;have HEQ:=Za (show mZ ⟨(t:Int),E,I,O⟩ (CW cl us t:Nat) (oU cl us t)=tV ⟨(t:Int),E,I,O⟩ t ps/\oU cl us t=kY ⟨(t:Int),E,I,O⟩ t ps by
            have e1:=wX.out.2.2;have e2:=HUE.out;unfold tV glN kY;rw[e1,e2];exact⟨rfl,rfl⟩)
           generalize mZ ⟨(t:Int),E,I,O⟩ (CW cl us t:Nat) (oU cl us t)=G at *;generalize oU cl us t=T at *;obtain⟨gw,ge,gi,gq⟩:=G;dsimp only;go_wp2;refine Zt (v:=.tuple #[.agg #[.int .i64 gw,.slice x1 ge.length y1',.slice x2 gi.length y2',.slice x3 gq.length y3],.slice (some ⟨g2,0,none⟩) t t]) (by simp[results,Tryz.results83,go_sem,iR]) rfl ?_;rw[<-HEQ.out.1,<-HEQ.out.2];refine⟨_,_,_,_,rfl,?_,?_,?_⟩
           ·exact(((((HGo.out).low (a:=⟨w.heap.size+1,0,none⟩) eU _).low (a:=⟨w.heap.size+1,1,none⟩) eU _).low (a:=⟨w.heap.size+1,2,none⟩) eU _).low (a:=⟨w.heap.size+1,3,none⟩) eU _).mono b_.size
           ·have av2:w.heap.size<=wE.heap.size:=zE.out;have h0:Rw w9 w.heap.size (.slice (some ⟨g2,0,none⟩) t t) T:=HVt.out.mono (by have:=HG2.out;omega);exact(((h0.setB kR (by decide) 0 _).setB (kR.set 0 _) (by decide) 1 _).setB ((kR.set 0 _).set 1 _) (by decide) 2 _).setB (((kR.set 0 _).set 1 _).set 2 _) (by decide) 3 _
           ·exact(((aeZ.setCell (by simp) _).setCell (by simp) _).setCell (by simp) _).setCell (by simp) _
theorem aqs {w:World} {v:Value} {c:List Nat} (h:aU w v (nI c)):∃a q,v=.slice a c.length q/\c.length<=q/\∀i,(hi:i<c.length)->∃b o,a=some ⟨b,o,none⟩/\w.cell? ⟨b,o+i,none⟩=some (.int .i64 ((c[i]:Nat):Int)):=by
 obtain⟨a,q,rfl,hq,hat⟩:=h;rw[tN]at *;refine⟨a,q,rfl,hq,λi hi=>?_⟩;obtain⟨b,o,rfl,h1,h2⟩:=hat i (by rw[tN];exact hi);refine⟨b,o,rfl,?_⟩;rw[Nv,Z2,Zg,Zi hi]at h2;exact h2
theorem acT (v:Value) (c:List Nat) (x r:Nat) (w:World) (hv:aU w v (nI c)) (hr:aqt c x r) :
  Calls Tryz.prog 178 #[v,.int .i64 x] w λe w'=>e=.returned (.int .i64 r)/\Below w.heap.size w w':=by
 obtain⟨a,q,rfl,hq,hat⟩:=aqs hv;have HAT:=Za hat
 clear hat hv;go_enter Tryz.func178,Tryz.ntmps178;go_wp2;go_loopw [1] (λi wr=>∃y:Nat,i=.int .i64 y/\aqt c y r/\Below w.heap.size w wr) (λi _=>(intOf i).toNat)
 case atStart=>exact⟨x,rfl,hr,Zl _ _⟩
 case round =>
  obtain⟨y,rfl,aaK,aI⟩:=hrel;have hy:=aaK.lt;obtain⟨b,o,rfl,c0⟩:=HAT.out y hy;replace c0:=aK aI c0;have bz:=cell_lt c0;cases aaK with
  | here h =>
   have e:c[r]=r:=by rw[Zi hy]at h;simpa using h
   rw[e]at c0;clear h e hr;go_wp2;go_ret;exact⟨rfl,aI⟩
  | @up _ p _ h hp Et =>
   have e:c[y]=p:=by rw[Zi hy]at h;simpa using h
   rw[e]at c0;have hne:¬((p:Int)=(y:Int)):=by omega
   have HR:=Za Et;clear h e hr Et;go_wp2;go_roundw
   case rel=>exact⟨p,rfl,HR.out,aI⟩
   case measure=>simp[intOf];omega
theorem aqu (c:List Nat) (i m:Nat):nI (c.set i m)=(nI c).set i (m:Int):=by
 unfold nI;rw[List.map_set]
theorem aqv (v:Value) (c cl:List Nat) (x y B:Nat) (w:World) (hv:Rw w B v (nI c)) (hB:B<=w.heap.size) (hc:ae0 c cl) (hx:x<c.length) (hy:y<c.length) :
  Calls Tryz.prog 176 #[v,.int .i64 x,.int .i64 y] w λe w'=>e=.returned (.tuple #[])/\Rw w' B v (nI (c.set (Nat.max (cl.getD x 0) (cl.getD y 0)) (Nat.min (cl.getD x 0) (cl.getD y 0))))/\aC (λj=>v.ownBlock=some j) w w':=by
 have hrx:=hc.rt x hx;have hry:=hc.rt y hy;obtain⟨p,hp⟩:∃p,cl.getD x 0=p:=⟨_,rfl⟩
 obtain⟨q,hq⟩:∃q,cl.getD y 0=q:=⟨_,rfl⟩
 rw[hp]at hrx ⊢;rw[hq]at hry ⊢;have hpl:=(Yb.1 hrx.fix).1;have hql:=(Yb.1 hry.fix).1;obtain⟨g,cp,rfl,hg,wK⟩:=Rw.block hv (by rw[tN];omega);rw[tN]at *;have sN:Nat.max p q<c.length:=Nat.max_lt.2 ⟨hpl,hql⟩;have HRX:=Za (λu (hu:aU u (.slice (some ⟨g,0,none⟩) c.length cp) (nI c))=>acT _ c x p u hu hrx);have HRY:=Za (λu (hu:aU u (.slice (some ⟨g,0,none⟩) c.length cp) (nI c))=>acT _ c y q u hu hry);obtain⟨M,hM⟩:∃M,Nat.max p q=M:=⟨_,rfl⟩
 obtain⟨N,hN⟩:∃N,Nat.min p q=N:=⟨_,rfl⟩
 rw[hM]at sN;have P_:=Za (Zb hM hN);have HV:=Za hv;clear hp hq hpl hql hrx hry hc hx hy hM hN hv;go_enter Tryz.func176,Tryz.ntmps176;go_wp2_with fail
 refine(HRX.out _ HV.out.at).mono ?_;rintro e w1⟨rfl,hb1⟩;have Qa:=Za (HV.out.keep hb1);go_wp2_with fail
 refine(HRY.out _ Qa.out.at).mono ?_;rintro e w2⟨rfl,hb2⟩;have zh:=hb1.trans (hb2.mono hb1.size);have hv2:=Qa.out.keep hb2;have hrow:w2.ownsRow B 3 1 (.slice (some ⟨g,0,none⟩) c.length cp) c.length ((nI c).flatMap gU):=by unfold Rw at hv2;rw[tN]at hv2;exact hv2
 have d0:=mV sF hrow M 0 (by rw[tN];exact sN) (by omega);have f0:=hrow.frozenAt (M*1);simp only[gU,Z2,YC,Zc]at d0 f0;have cZ:=Ap sF hrow M 0 M (by rw[tN];exact sN) (by omega) (by omega) (.int .i64 (N:Int)) (N:Int) rfl;have HS:=Za cZ;have SA:=cell_lt d0;have hmx:max (p:Int) (q:Int)=(M:Int):=by have h:=P_.out.1;rw[show Nat.max p q=max p q from rfl]at h;omega
 have rO:min (p:Int) (q:Int)=(N:Int):=by have h:=P_.out.2;rw[show Nat.min p q=min p q from rfl]at h;omega
 clear hrow cZ hv2 hb1 hb2;go_wp2;refine XV (v:=.tuple #[]) (by simp[results,Tryz.results176,go_sem]) rfl ⟨rfl,?_,?_⟩
 ·rw[P_.out.1,P_.out.2,aqu];unfold Rw;rw[Yf,tN];exact HS.out
 ·refine bF ((aC.refl _ _).below zh) ?_ _;exact .inr rfl
def CZ (cl:List Nat) (zs:List Int):List Int:=zs.map λz=>((cl.getD z.toNat 0:Nat):Int)
theorem aqw (cl:List Nat) (g:aF) (r:Nat):(CZ cl g.places).contains (r:Int)=Gh g cl r:=by
 rw[YK];unfold CZ Gh;rw[Yh,ZM,XA];constructor
 ·rintro⟨z,hz,e⟩;exact⟨z,hz,by rw[XY];omega⟩
 ·rintro⟨z,hz,e⟩;rw[XY]at e;exact⟨z,hz,by omega⟩
theorem ae1 (cl:List Nat) (a b:List Int):CZ cl (a++b)=CZ cl a++CZ cl b:=ZK
structure C9 (w0 w:World) (ub cb sg:Nat) (vc:Value) (n:Nat) (c:List Nat) (vis:List Int):Prop where
 bel:Below w0.heap.size w0 w
 lo:w0.heap.size<=sg
 ne:ub≠sg/\cb≠sg
 vne:vc.ownBlock≠some sg
 us:w.cell? ⟨ub,0,none⟩=some (.slice (some ⟨sg,0,none⟩) n n)
 cc:w.cell? ⟨cb,0,none⟩=some vc
 ae3:Rw w 0 vc (nI c)
 row:w.ownsRow w0.heap.size 4 1 (.slice (some ⟨sg,0,none⟩) n n) n ((mF n vis).flatMap nN)
theorem C9.keep {w0 w w':World} {ub cb sg n:Nat} {vc:Value} {c:List Nat} {vis:List Int} (h:C9 w0 w ub cb sg vc n c vis) (hb:Below w.heap.size w w'):C9 w0 w' ub cb sg vc n c vis :=
 ⟨h.bel.trans (hb.mono h.bel.size),h.lo,h.ne,h.vne,aK hb h.us,aK hb h.cc,h.ae3.keep hb,jL hb h.row⟩
theorem C9.put {w0 w:World} {ub cb sg n:Nat} {vc:Value} {c:List Nat} {vis:List Int} (h:C9 w0 w ub cb sg vc n c vis) (k:Nat) (hk:k<n):C9 w0 (w.setCell ⟨sg,k,none⟩ (.bool true)) ub cb sg vc n c (vis++[(k:Int)]):=by
 obtain⟨h1,h2,h3,h4,h5,h6,h7,h8⟩:=h;refine⟨h1.setCell h2 _,h2,h3,h4,?_,?_,eP h7 _ _ h4,?_⟩
 ·rw[YQ _ ⟨sg,k,none⟩ ⟨ub,0,none⟩ _ (by simp<;>omega)];exact h5
 ·rw[YQ _ ⟨sg,k,none⟩ ⟨cb,0,none⟩ _ (by simp<;>omega)];exact h6
 ·rw[OZ n vis k hk];exact Ap Es h8 k 0 k (by rw[AA];exact hk) (by omega) (by omega) (.bool true) true rfl
theorem aqx (v:Value) (zs:List Int) (w0 w:World) (ub cb sg n:Nat) (vc:Value) (c cl:List Nat) (vis:List Int) (hv:aU w0 v zs) (hc:ae0 c cl) (mG:c.length=n) (bV:∀z∈zs,0<=z/\z<(n:Int)) (hz:zs.length<=1048576) (h:C9 w0 w ub cb sg vc n c vis) :
  Calls Tryz.prog 177 #[v,.pointer (some ⟨ub,0,none⟩),.pointer (some ⟨cb,0,none⟩)] w λe w'=>e=.returned (.tuple #[])/\C9 w0 w' ub cb sg vc n c (vis++CZ cl zs)/\aC (λj=>j=sg) w w':=by
 obtain⟨a,cap,rfl,ED,hat⟩:=hv;have HRT:=Za (λ(u:World) (x:Nat) (hx:x<n) (hu:aU u vc (nI c))=>acT vc c x (cl.getD x 0) u hu (hc.rt x (by omega)));have Aa:=Za (λ(x:Nat) (hx:x<n)=>show cl.getD x 0<n by rw[<-mG];exact(Yb.1 (hc.rt x (by omega)).fix).1);have lK:=Za bV;clear hc mG bV;go_enter Tryz.func177,Tryz.ntmps177;go_wp2;go_loopw [8] (λi wr=>∃k:Nat,k<=zs.length/\i=.int .i64 k/\C9 w0 wr ub cb sg vc n c (vis++CZ cl (zs.take k))/\aC (λj=>j=sg) w wr) (λi _=>zs.length-(intOf i).toNat)
 case atStart=>exact⟨0,Zw _,rfl,by simpa[CZ]using h,aC.refl _ _⟩
 case round =>
  obtain⟨k,hk,rfl,hst,hex⟩:=hrel;clear h;by_cases hlt:k<zs.length
  ·obtain⟨b,o,rfl,_,c0⟩:=hat k hlt;rw[Z2]at c0;replace c0:=aK hst.bel c0;have hr:=lK.out _ (Zp hlt);obtain⟨z,hzz⟩:∃z,zs[k]=z:=⟨_,rfl⟩
   have tH:vis++CZ cl (zs.take (k+1))=(vis++CZ cl (zs.take k))++[((cl.getD z.toNat 0:Nat):Int)]:=by rw[Zv hlt,hzz,ae1,Zz];rfl
   rw[hzz]at c0 hr;obtain⟨m,rfl⟩:∃m:Nat,z=m:=⟨z.toNat,by omega⟩
   rw[Zr]at tH;have hm:m<n:=by omega
   have sO:=Aa.out m hm;have hrt:=λu=>HRT.out u m hm;obtain⟨r,sQ⟩:∃r,cl.getD m 0=r:=⟨_,rfl⟩
   rw[sQ]at tH sO hrt;have HT:=Za tH;have HR:=Za hrt;have HX:=Za hex;have cu:=hst.us;have ccc:=hst.cc;have zu:=cell_lt cu;have zcb:=cell_lt ccc;have bz:=cell_lt c0;have NH:=hst.ne.1;have Gj:=hst.ne.2;have av3:=(Zh hst.row sg (by simp[Value.ownBlock])).2;clear hat hzz tH sQ hrt hr hex;go_wp2_with fail
   have up:∀{w':World},aC (λj=>j=sg) wr.drew w'->aC (λj=>j=sg) wr w':=λh=>((aC.refl _ _).below (Zl _ _).drew).trans h;have Na:=hst.ae3;refine h_ (C:=aC ((λj=>j=sg)) _) 2 [0,1,2,3,4,5] (by kernel_rfl) (by kernel_rfl) (aC.aJ _ _) (aC.refl _ _) ?_;iterate 3 (apply i_ rfl rfl rfl;(focus intro u hc' hf';(try simp only[Zo]at hc' hf');go_simp<;>rfl);intro K hK;go_simp;apply hK;clear hK K)
   refine fD rfl rfl rfl (aC.aJ _ _) (aC.refl _ _) 178 (λK hK=>?_);apply Zq;refine⟨λw' hw'=>?_,λwa bT bZ=>?_⟩;(focus go_simp;rfl);refine(HR.out _ ((Na.keep ((Zl _ _).drew.trans (bZ.mono (by simp)))).at)).mono ?_;rintro e w3⟨rfl,hb3⟩;refine⟨_,rfl,hb3,λhx=>?_⟩;go_simp;apply hK;clear hK K;iterate 1 (apply i_ rfl rfl rfl;(focus intro u hc' hf';(try simp only[Zo]at hc' hf');go_simp<;>rfl);intro K hK;go_simp;apply hK;clear hK K)
   refine jd rfl rfl rfl (aC.aJ _ _) hx (λK hK=>?_);intro w4 hw4 hb4;have ai0:=bZ.size;have av4:=hb3.size;simp only[Zo]at ai0;have oH:Below wr.heap.size wr w4:=(((Zl wr.heap.size wr).drew.trans (bZ.mono (by simp))).trans (hb3.mono ai0)).trans (hb4.mono (by omega));have yC:=hst.keep oH;have s0:=mV Es yC.row r 0 (by rw[AA];exact sO) (by omega);have f0:=yC.row.frozenAt r;rw[JM]at s0;simp only[nN,Z2,YC,Zc]at s0;have zg2:=cell_lt s0;have HS:=Za (yC.put r sO);refine⟨w4.setCell ⟨sg,r,none⟩ (.bool true),?_,⟨bF hw4 (.inr rfl) _,by simp,λj hj _ _=>by rw[Zm _ _ _ _ (by show ¬_=_;intro hh;simp only[Zo]at hj hh;omega)]⟩,?_⟩
   ·go_simp
   go_simp;refine hK _ _ _ ?_;clear hK K;refine dR ?_;have gu:aC (λj=>j=sg) wr (w4.setCell ⟨sg,r,none⟩ (.bool true)):=bF (up hw4) (.inr rfl) _;have HE:=Za (HX.out.trans gu);clear yC s0 f0 gu oH Na up hst cu ccc;go_wp2;go_roundw
   case rel=>exact⟨k+1,by omega,by go_num,by rw[HT.out];exact HS.out,HE.out⟩
   case measure=>simp[intOf];omega
  ·obtain rfl:k=zs.length:=by omega
   rw[ZY]at hst;go_wp2;exact XV (v:=.tuple #[]) (by simp[results,Tryz.results177,go_sem]) rfl ⟨rfl,hst,hex⟩
theorem aqy (z:Int) (ve vi vo:Value) (g:aF) (w0 w:World) (ub cb sg n:Nat) (vc:Value) (c cl:List Nat) (hR:dM w0 ve vi vo g) (aP:nJ g) (hc:ae0 c cl) (mG:c.length=n) (bV:∀z∈g.places,0<=z/\z<(n:Int)) (h:C9 w0 w ub cb sg vc n c []) :
  Calls Tryz.prog 122 #[.agg #[.int .i64 z,ve,vi,vo],(.func (.func 177) #[] #[.pointer (some ⟨ub,0,none⟩),.pointer (some ⟨cb,0,none⟩)])] w λe w'=>e=.returned (.tuple #[])/\C9 w0 w' ub cb sg vc n c (CZ cl g.places):=by
 obtain⟨⟨ae,ce,rfl⟩,⟨ai,ci,rfl⟩,ao,co,rfl⟩:=hR.slices;have hpl:g.places=(g.aj++g.ay)++g.ah.flatMap λe=>e.aj++e.ay:=by unfold aF.places;rw[Zz]
 obtain⟨zk,rH,AY⟩:=aaA (g:=g);have hv0:=λ(zs:List Int) (hz:∀z∈zs,z∈g.places) (v:Value) (u:World) (vis:List Int) (hv:aU w0 v zs) (hl:zs.length<=1048576) (hu:C9 w0 u ub cb sg vc n c vis)=>aqx v zs w0 u ub cb sg n vc c cl vis hv hc mG (λz h=>bV z (hz z h)) hl hu;have HV:=Za hv0;have HP:=Za (Zb zk (Zb rH AY));clear zk rH AY hv0 hc mG bV;have nP:=Za hpl;clear hpl;go_enter Tryz.func122,Tryz.ntmps122;go_wp2_with fail
 have kI:=Bk.new w 33 #[.int .i64 z,.slice ae g.ah.length ce,.slice ai g.aj.length ci,.slice ao g.ay.length co];have B_:¬(w.heap.size=sg):=λe=>by have:=(Zh h.row sg (by simp[Value.ownBlock])).2;omega
 have hs0:=h.keep (aH w (.cells #[.int .i64 z,.slice ae g.ah.length ce,.slice ai g.aj.length ci,.slice ao g.ay.length co] 33));clear h;generalize(w.alloc (.cells #[.int .i64 z,.slice ae g.ah.length ce,.slice ai g.aj.length ci,.slice ao g.ay.length co] 33))=u0 at *;refine(HV.out g.aj HP.out.1 _ _ [] hR.inn aP.inn hs0).mono ?_;rintro r u1⟨rfl,hs1,hx1⟩;rw[YW]at hs1;replace kI:=kI.exc hx1 B_;obtain⟨iI,-,zI⟩:=kI.cell;clear hx1 hs0;go_wp2_with fail
 refine(HV.out g.ay HP.out.2.1 _ _ _ hR.out aP.out hs1).mono ?_;clear iI zI;rintro r u2⟨rfl,hs2,hx2⟩;replace kI:=kI.exc hx2 B_;obtain⟨iI,-,zI⟩:=kI.cell;clear hx2 hs1;go_wp2_with fail
 clear iI zI kI B_;obtain⟨pe,JO,he,hce,hat⟩:=hR.ed;simp only[Zx]at he;obtain⟨rfl,-,rfl⟩:=he;have Cb:=aP.ed;go_loopw [17] (λi wr=>∃k:Nat,k<=g.ah.length/\i=.int .i64 k/\C9 w0 wr ub cb sg vc n c (CZ cl ((g.aj++g.ay)++(g.ah.take k).flatMap λe=>e.aj++e.ay))) (λi _=>g.ah.length-(intOf i).toNat)
 case atStart=>exact⟨0,Zw _,rfl,by simpa[ae1]using hs2⟩
 case round =>
  clear hs2;obtain⟨k,hk,rfl,hst⟩:=hrel;by_cases hlt:k<g.ah.length
  ·obtain⟨b,o,rfl,_,dI⟩:=hat k hlt;obtain⟨c0,c1,x1,x2,c2,c3,nR,AB⟩:=dI.keep hst.bel;obtain⟨d0,d1,y1,y2,d2,d3,hi,ho⟩:=dI;obtain rfl:x1=y1:=by have:=aK hst.bel d2;rw[c2]at this;exact Zy this
   obtain rfl:x2=y2:=by have:=aK hst.bel d3;rw[c3]at this;exact Zy this
   obtain⟨a1,q1,rfl⟩:=hi.slice;obtain⟨a2,q2,rfl⟩:=ho.slice;have bz:=cell_lt c0;have aak:=aP.xO _ (Zp hlt);have tH:(g.ah.take (k+1)).flatMap (λe=>e.aj++e.ay)=(g.ah.take k).flatMap (λe=>e.aj++e.ay)++(g.ah[k].aj++g.ah[k].ay):=by
    rw[Zv hlt,ZL];simp
   have HT:=Za tH;clear tH hat d0 d1 d2 d3 nR AB;go_wp2_with fail
   have kI:=Bk.new wr 102 #[.int .i64 g.ah[k].kind,.int .i64 g.ah[k].value,.slice a1 g.ah[k].aj.length q1,.slice a2 g.ah[k].ay.length q2];have B_:¬(wr.heap.size=sg):=λe=>by have:=(Zh hst.row sg (by simp[Value.ownBlock])).2;omega
   have hs0:=hst.keep (aH wr (.cells #[.int .i64 g.ah[k].kind,.int .i64 g.ah[k].value,.slice a1 g.ah[k].aj.length q1,.slice a2 g.ah[k].ay.length q2] 102));clear hst c0 c1 c2 c3 bz;generalize(wr.alloc (.cells #[.int .i64 g.ah[k].kind,.int .i64 g.ah[k].value,.slice a1 g.ah[k].aj.length q1,.slice a2 g.ah[k].ay.length q2] 102))=u3 at *;refine(HV.out g.ah[k].aj (HP.out.2.2 k hlt).1 _ _ _ hi aak.inn hs0).mono ?_;rintro r u4⟨rfl,hs1,hx1⟩;replace kI:=kI.exc hx1 B_;obtain⟨iI,-,zI⟩:=kI.cell;clear hx1 hs0;go_wp2_with fail
   refine(HV.out g.ah[k].ay (HP.out.2.2 k hlt).2 _ _ _ ho aak.out hs1).mono ?_;clear iI zI;rintro r u5⟨rfl,hs2,hx2⟩;clear hx2 hs1 kI;go_wp2_with fail
   go_roundw
   case rel=>exact⟨k+1,by omega,by go_num,by rw[HT.out];simpa[ae1,Zz]using hs2⟩
   case measure=>simp[intOf];omega
  ·obtain rfl:k=g.ah.length:=by omega
   rw[ZY,<-nP.out]at hst;go_wp2;exact XV (v:=.tuple #[]) (by simp[results,Tryz.results122,go_sem]) rfl ⟨rfl,hst⟩
end Go.Proofs.YtkhpobekconobaaGreat
