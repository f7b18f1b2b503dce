import Derived.Test.YtkhpobekconobaaGreatHAO
set_option linter.all false
set_option maxRecDepth 100000
set_option maxHeartbeats 0
namespace Go.Proofs.YtkhpobekconobaaGreat
open Go.RowKit
def l9 (w:World) (B:Nat) (xs:List (Value×List Int)):Prop:=(∀x∈xs,Rw w B x.1 x.2)/\xs.Pairwise λx y=>∀j,x.1.ownBlock=some j->y.1.ownBlock=some j->False
theorem l9.keep {w w':World} {B:Nat} {xs:List (Value×List Int)} (hb:Below w.heap.size w w') (h:l9 w B xs):l9 w' B xs:=⟨λx hx=>(h.1 x hx).keep hb,h.2⟩
theorem l9.setB {w:World} {B b:Nat} {xs:List (Value×List Int)} {t:TypeId} {cs:Array Value} (h:l9 w B xs) (kb:Bk w b t cs) (h2:3≠t) (j:Nat) (u:Value):l9 (w.setCell ⟨b,j,none⟩ u) B xs :=
 ⟨λx hx=>(h.1 x hx).setB kb h2 j u,h.2⟩
theorem l9.app {w w':World} {B:Nat} {pre post:List (Value×List Int)} {v v':Value} {l l':List Int} (h:l9 w B (pre++(v,l)::post)) (hg:w.grownBy w' v.ownBlock) (hv:Rw w' B v' l') (hb:v'.ownBlock=v.ownBlock\/v'.ownBlock=some w.heap.size) :
  l9 w' B (pre++(v',l')::post):=by
 obtain⟨h1,h2⟩:=h;rw[YO]at h2;obtain⟨p1,p2,p3⟩:=h2;rw[Yd]at p2;obtain⟨p4,p5⟩:=p2;have hlt:∀x∈pre++(v,l)::post,∀j,x.1.ownBlock=some j->j<w.heap.size:=λx hx j hj=>(Zh (h1 x hx) j hj).2;have mv:∀x∈pre++(v,l)::post,(∀j,x.1.ownBlock=some j->v.ownBlock=some j->False)->Rw w' B x.1 x.2:=λx hx ha=>(h1 x hx).grown hg λk hk e=>ha k hk e;have fresh:∀x∈pre++(v,l)::post,(∀j,x.1.ownBlock=some j->v.ownBlock=some j->False)->∀j,x.1.ownBlock=some j->v'.ownBlock=some j->False:=λx hx ha j hj uV=>by
  rcases hb with hb|hb
  ·exact ha j hj (hb▸uV)
  ·rw[hb]at uV;have:=hlt x hx j hj;simp at uV;omega
 have akd:∀x∈pre,∀j,x.1.ownBlock=some j->v.ownBlock=some j->False:=λx hx j h1 h2=>p3 x hx (v,l) (by simp) j h1 h2;have ake:∀x∈post,∀j,x.1.ownBlock=some j->v.ownBlock=some j->False:=λx hx j h1 h2=>p4 x hx j h2 h1;refine⟨λx hx=>?_,?_⟩
 ·rcases Zs.1 hx with hx|hx
  ·exact mv x (by simp[hx]) (akd x hx)
  ·rcases ZU.1 hx with rfl|hx
   ·exact hv
   ·exact mv x (by simp[hx]) (ake x hx)
 ·rw[YO,Yd];refine⟨p1,⟨λy hy j hj uV=>fresh y (by simp[hy]) (ake y hy) j uV hj,p5⟩,λx hx y hy=>?_⟩;rcases ZU.1 hy with rfl|hy
  ·exact λj hj uV=>fresh x (by simp[hx]) (akd x hx) j hj uV
  ·exact p3 x hx y (by simp[hy])
theorem ada (k:Nat):dW (k+1)=dW k++[(k:Int)]:=by simp[dW,YV]
theorem akf (a k:Nat):bY a (k+1)=bY a k++[((k+a:Nat):Int)]:=by simp[bY,YV]
theorem arG (n:Nat) (w:World) (hn:n<=1000):Calls Tryz.prog 145 #[.int .i64 n] w (nZ (DT n) w):=by
 have aQ:=aH w (.cells #[.int .i64 0,.slice none 0 0,.slice none 0 0,.slice none 0 0] 33);have aT:=aH (w.alloc (.cells #[.int .i64 0,.slice none 0 0,.slice none 0 0,.slice none 0 0] 33)) (.cells #[.int .i64 n,.slice none 0 0,.slice none 0 0,.slice none 0 0] 33);have hB:=aQ.trans (aT.mono aQ.size);have kR:=(Bk.new w 33 #[.int .i64 0,.slice none 0 0,.slice none 0 0,.slice none 0 0]).keep aT;have kO:=Bk.new (w.alloc (.cells #[.int .i64 0,.slice none 0 0,.slice none 0 0,.slice none 0 0] 33)) 33 #[.int .i64 n,.slice none 0 0,.slice none 0 0,.slice none 0 0];simp only[Zn]at kO;clear aQ aT;go_enter Tryz.func145,Tryz.ntmps145;go_wp2_with fail
 generalize((w.alloc (.cells #[.int .i64 0,.slice none 0 0,.slice none 0 0,.slice none 0 0] 33)).alloc (.cells #[.int .i64 n,.slice none 0 0,.slice none 0 0,.slice none 0 0] 33))=u0 at *;have I5:=Za kO.lt;go_loopw [4] (λi wr=>∃k:Nat,k<=n/\i=.int .i64 k/\∃vi vo,Bk wr (w.heap.size+1) 33 #[.int .i64 n,.slice none 0 0,vi,vo]/\Bk wr w.heap.size 33 #[.int .i64 0,.slice none 0 0,.slice none 0 0,.slice none 0 0]/\l9 wr u0.heap.size [(vi,dW k),(vo,dW k)]/\u0.heap.size<=wr.heap.size/\Below w.heap.size w wr) (λi _=>n-(intOf i).toNat)
 case atStart=>exact⟨0,Zw _,rfl,_,_,kO,kR,⟨λx hx=>by
   simp only[ZU,YM,XM,or_self]at hx;subst hx;exact Ye _ _ _ _,by simp[Value.ownBlock]⟩,Zj _,hB⟩
 case round =>
  clear kO kR hB;obtain⟨k,hk,rfl,vi,vo,kO,kR,gZ,hsz,aI⟩:=hrel;obtain⟨ai,ci,rfl⟩:=(show Rw wr u0.heap.size vi (dW k)from gZ.1 (vi,dW k) (by simp)).slice;obtain⟨ao,co,rfl⟩:=(show Rw wr u0.heap.size vo (dW k)from gZ.1 (vo,dW k) (by simp)).slice;rw[oh]at *;by_cases hlt:k<n
  ·obtain⟨iO,fO,zO⟩:=kO.cell;have HR:=Za gZ;have PX:=Za hsz;clear gZ;go_wp2_with (at_builtin;refine Y7 ?_)
   refine Za ?_;have gK:=aH wr (.cells #[.int .i64 k] 3);have fQ:=HR.out.keep gK;refine yZ (Dy wr (k:Int)) rfl (.tmp 13) (.tmp 15) rfl u0.heap.size (.slice ai k ci) (dW k) rfl rfl (fQ.1 (.slice ai k ci,dW k) (by simp)) (by simp;have:=PX.out;omega) (by rw[oh];simp;omega) ?_;intro v1 w1 r1 r2 r3;rw[<-ada]at r1;obtain⟨a1,c1,rfl⟩:=r1.slice;rw[oh]at *;have NH:=cO (fQ.1 (.slice ai k ci,dW k) (by simp)) (kO.keep gK) (by decide);have Gj:=cO (fQ.1 (.slice ai k ci,dW k) (by simp)) (kR.keep gK) (by decide);have kO1:=(kO.keep gK).grown r2 NH;have qO:=((kR.keep gK).grown r2 Gj).other ⟨w.heap.size+1,2,none⟩ (.slice a1 (k+1) c1) (by simp);have Jc:=(fQ.app (pre:=[]) r2 r1 r3).setB kO1 (by decide) 2 (.slice a1 (k+1) c1);have hb1:Below w.heap.size w w1:=(aI.trans (gK.mono aI.size)).grown r2 (by have:=aI.size;simp;omega) (λj hj=>by have:=(Zh (fQ.1 (.slice ai k ci,dW k) (by simp)) j hj).1;have:=I5.out;omega);have aaQ:wr.heap.size+1<=w1.heap.size:=by have:=r2.size;simp at this;exact this
   have HR1:=Za (Zb Jc (Zb (YI (p:=⟨w.heap.size+1,2,none⟩) hb1 (by simp) (.slice a1 (k+1) c1)) aaQ));have qP:=kO1.set 2 (.slice a1 (k+1) c1);obtain⟨i1,f1,z1⟩:=kO1.cell;clear iO fO zO r1 r2 r3 fQ gK NH Gj Jc hb1 aaQ HR kO kR aI qP;go_wp2_with (at_builtin;refine Y7 ?_)
   refine Za ?_;have jZ:=aH (w1.setCell ⟨w.heap.size+1,2,none⟩ (.slice a1 (k+1) c1)) (.cells #[.int .i64 k] 3);have qL:=HR1.out.1.keep jZ;have dA:=HR1.out.2.1;have j_:=Dy (w1.setCell ⟨w.heap.size+1,2,none⟩ (.slice a1 (k+1) c1)) (k:Int)
   rw[YB]at j_;refine yZ j_ rfl (.tmp 19) (.tmp 21) rfl u0.heap.size (.slice ao k co) (dW k) rfl rfl (qL.1 (.slice ao k co,dW k) (by simp)) (by simp;have:=PX.out;have:=HR1.out.2.2;omega) (by rw[oh];simp;omega) ?_;intro v2 w2 r1 r2 r3;rw[<-ada]at r1;obtain⟨a2,c2,rfl⟩:=r1.slice;rw[oh]at *;have rZ:Bk (w1.setCell ⟨w.heap.size+1,2,none⟩ (.slice a1 (k+1) c1)) (w.heap.size+1) 33 #[.int .i64 n,.slice none 0 0,.slice a1 (k+1) c1,.slice ao k co]:=kO1.set 2 (.slice a1 (k+1) c1);have NH:=cO (qL.1 (.slice ao k co,dW k) (by simp)) (rZ.keep jZ) (by decide);have Gj:=cO (qL.1 (.slice ao k co,dW k) (by simp)) (qO.keep jZ) (by decide);have r_:=(rZ.keep jZ).grown r2 NH;have KF:=((qO.keep jZ).grown r2 Gj).other ⟨w.heap.size+1,3,none⟩ (.slice a2 (k+1) c2) (by simp);have akg:=(qL.app (pre:=[(.slice a1 (k+1) c1,dW (k+1))]) r2 r1 r3).setB r_ (by decide) 3 (.slice a2 (k+1) c2);have hb4:Below w.heap.size w w2:=(dA.trans (jZ.mono dA.size)).grown r2 (by have:=dA.size;simp at *;omega) (λj hj=>by have:=(Zh (qL.1 (.slice ao k co,dW k) (by simp)) j hj).1;have:=I5.out;omega);have akh:u0.heap.size<=w2.heap.size:=by have:=r2.size;have:=PX.out;have:=HR1.out.2.2;simp at *;omega
   have tK:Bk (w2.setCell ⟨w.heap.size+1,3,none⟩ (.slice a2 (k+1) c2)) (w.heap.size+1) 33 #[.int .i64 n,.slice none 0 0,.slice a1 (k+1) c1,.slice a2 (k+1) c2]:=r_.set 3 (.slice a2 (k+1) c2);have HE:=Za (Zb tK (Zb KF (Zb akg (Zb (show u0.heap.size<=(w2.setCell ⟨w.heap.size+1,3,none⟩ (.slice a2 (k+1) c2)).heap.size by simpa using akh) (YI (p:=⟨w.heap.size+1,3,none⟩) hb4 (by simp) (.slice a2 (k+1) c2))))));obtain⟨i1,f1,z1⟩:=r_.cell;clear j_ r1 r2 r3 qL jZ NH Gj akg hb4 akh kO1 rZ tK qO KF dA;go_wp2;go_roundw
   case rel=>exact⟨k+1,by omega,by go_num,_,_,HE.out.1,HE.out.2.1,HE.out.2.2.1,HE.out.2.2.2.1,HE.out.2.2.2.2⟩
   case measure=>simp[intOf];omega
  ·obtain rfl:k=n:=by omega
   obtain⟨iO,fO,zO⟩:=kO.cell;obtain⟨iR,fR,zR⟩:=kR.cell;have HR:=Za gZ;have HB:=Za aI;clear gZ aI;go_wp2;refine Zt (v:=.agg #[.int .i64 k,.slice none 0 0,.slice ai k ci,.slice ao k co]) (by simp[results,Tryz.results145,go_sem,iR]) rfl ⟨_,_,_,rfl,?_,?_⟩
   ·have g0:dB wr u0.heap.size (.slice none 0 0) (.slice ai k ci) (.slice ao k co) (DT k):=⟨mW.nil _ _,HR.out.1 (.slice ai k ci,dW k) (by simp),HR.out.1 (.slice ao k co,dW k) (by simp)⟩
    exact(g0.res (b:=w.heap.size) (by have:=I5.out;omega) _ _ _ _).mono (by have:=I5.out;omega)
   ·exact iU HB.out (Zj _) _ _ _ _
structure Dk (w W:World) (c0:Value) (k v:Int) (vi ei vo eo:Value) (l1 l2 l3 l4:List Int):Prop where
 kG:Bk W (w.heap.size+2) 33 #[c0,.slice none 0 0,vi,vo]
 kE:Bk W (w.heap.size+2+1) 102 #[.int .i64 k,.int .i64 v,ei,eo]
 kR:Bk W (w.heap.size+1) 33 #[.int .i64 0,.slice none 0 0,.slice none 0 0,.slice none 0 0]
 rows:l9 W (w.heap.size+4) [(vi,l1),(ei,l2),(vo,l3),(eo,l4)]
 bel:Below w.heap.size w W
 sz:w.heap.size+4<=W.heap.size
theorem Dk.app1 {w W w':World} {c0:Value} {k v:Int} {vi ei vo eo v':Value} {l1 l2 l3 l4 l':List Int} {ob:Obj} (h:Dk w W c0 k v vi ei vo eo l1 l2 l3 l4) (r1:Rw w' (w.heap.size+4) v' l') (r2:(W.alloc ob).grownBy w' vi.ownBlock) (r3:v'.ownBlock=vi.ownBlock\/v'.ownBlock=some (W.alloc ob).heap.size) :
  Bk w' (w.heap.size+2) 33 #[c0,.slice none 0 0,vi,vo]/\Bk w' (w.heap.size+2+1) 102 #[.int .i64 k,.int .i64 v,ei,eo]/\Dk w (w'.setCell ⟨w.heap.size+2,2,none⟩ v') c0 k v v' ei vo eo l' l2 l3 l4:=by
 obtain⟨kG,kE,kR,hr,hb,hs⟩:=h;have hA:=aH W ob;have fQ:=hr.keep hA;have jh:=fQ.1 (vi,l1) (by simp);have g1:=(kG.keep hA).grown r2 (cO jh (kG.keep hA) (by decide));have g2:=(kE.keep hA).grown r2 (cO jh (kE.keep hA) (by decide));have g3:=(kR.keep hA).grown r2 (cO jh (kR.keep hA) (by decide));have gZ:=fQ.app (pre:=[]) r2 r1 r3;have hb4:Below w.heap.size w w':=(hb.trans (hA.mono hb.size)).grown r2 (by have:=hb.size;simp;omega) (λj hj=>by have:=(Zh jh j hj).1;omega);have hz:=r2.size;rw[Zn]at hz;refine⟨g1,g2,⟨?_,?_,g3.other _ _ (by simp),gZ.setB g1 (by decide) 2 v',hb4.setCell (by show w.heap.size<=w.heap.size+2;omega) _,by rw[YB];omega⟩⟩
 ·exact g1.set 2 v'
 ·exact g2.other _ _ (by simp)
theorem Dk.RU {w W w':World} {c0:Value} {k v:Int} {vi ei vo eo v':Value} {l1 l2 l3 l4 l':List Int} {ob:Obj} (h:Dk w W c0 k v vi ei vo eo l1 l2 l3 l4) (r1:Rw w' (w.heap.size+4) v' l') (r2:(W.alloc ob).grownBy w' ei.ownBlock) (r3:v'.ownBlock=ei.ownBlock\/v'.ownBlock=some (W.alloc ob).heap.size) :
  Bk w' (w.heap.size+2) 33 #[c0,.slice none 0 0,vi,vo]/\Bk w' (w.heap.size+2+1) 102 #[.int .i64 k,.int .i64 v,ei,eo]/\Dk w (w'.setCell ⟨w.heap.size+2+1,2,none⟩ v') c0 k v vi v' vo eo l1 l' l3 l4:=by
 obtain⟨kG,kE,kR,hr,hb,hs⟩:=h;have hA:=aH W ob;have fQ:=hr.keep hA;have jh:=fQ.1 (ei,l2) (by simp);have g1:=(kG.keep hA).grown r2 (cO jh (kG.keep hA) (by decide));have g2:=(kE.keep hA).grown r2 (cO jh (kE.keep hA) (by decide));have g3:=(kR.keep hA).grown r2 (cO jh (kR.keep hA) (by decide));have gZ:=fQ.app (pre:=[(vi,l1)]) r2 r1 r3;have hb4:Below w.heap.size w w':=(hb.trans (hA.mono hb.size)).grown r2 (by have:=hb.size;simp;omega) (λj hj=>by have:=(Zh jh j hj).1;omega);have hz:=r2.size;rw[Zn]at hz;refine⟨g1,g2,⟨?_,?_,g3.other _ _ (by simp),gZ.setB g2 (by decide) 2 v',hb4.setCell (by show w.heap.size<=w.heap.size+2+1;omega) _,by rw[YB];omega⟩⟩
 ·exact g1.other _ _ (by simp)
 ·exact g2.set 2 v'
theorem Dk.arH {w W w':World} {c0:Value} {k v:Int} {vi ei vo eo v':Value} {l1 l2 l3 l4 l':List Int} {ob:Obj} (h:Dk w W c0 k v vi ei vo eo l1 l2 l3 l4) (r1:Rw w' (w.heap.size+4) v' l') (r2:(W.alloc ob).grownBy w' vo.ownBlock) (r3:v'.ownBlock=vo.ownBlock\/v'.ownBlock=some (W.alloc ob).heap.size) :
  Bk w' (w.heap.size+2) 33 #[c0,.slice none 0 0,vi,vo]/\Bk w' (w.heap.size+2+1) 102 #[.int .i64 k,.int .i64 v,ei,eo]/\Dk w (w'.setCell ⟨w.heap.size+2,3,none⟩ v') c0 k v vi ei v' eo l1 l2 l' l4:=by
 obtain⟨kG,kE,kR,hr,hb,hs⟩:=h;have hA:=aH W ob;have fQ:=hr.keep hA;have jh:=fQ.1 (vo,l3) (by simp);have g1:=(kG.keep hA).grown r2 (cO jh (kG.keep hA) (by decide));have g2:=(kE.keep hA).grown r2 (cO jh (kE.keep hA) (by decide));have g3:=(kR.keep hA).grown r2 (cO jh (kR.keep hA) (by decide));have gZ:=fQ.app (pre:=[(vi,l1),(ei,l2)]) r2 r1 r3;have hb4:Below w.heap.size w w':=(hb.trans (hA.mono hb.size)).grown r2 (by have:=hb.size;simp;omega) (λj hj=>by have:=(Zh jh j hj).1;omega);have hz:=r2.size;rw[Zn]at hz;refine⟨g1,g2,⟨?_,?_,g3.other _ _ (by simp),gZ.setB g1 (by decide) 3 v',hb4.setCell (by show w.heap.size<=w.heap.size+2;omega) _,by rw[YB];omega⟩⟩
 ·exact g1.set 3 v'
 ·exact g2.other _ _ (by simp)
theorem Dk.arJ {w W w':World} {c0:Value} {k v:Int} {vi ei vo eo v':Value} {l1 l2 l3 l4 l':List Int} {ob:Obj} (h:Dk w W c0 k v vi ei vo eo l1 l2 l3 l4) (r1:Rw w' (w.heap.size+4) v' l') (r2:(W.alloc ob).grownBy w' eo.ownBlock) (r3:v'.ownBlock=eo.ownBlock\/v'.ownBlock=some (W.alloc ob).heap.size) :
  Bk w' (w.heap.size+2) 33 #[c0,.slice none 0 0,vi,vo]/\Bk w' (w.heap.size+2+1) 102 #[.int .i64 k,.int .i64 v,ei,eo]/\Dk w (w'.setCell ⟨w.heap.size+2+1,3,none⟩ v') c0 k v vi ei vo v' l1 l2 l3 l':=by
 obtain⟨kG,kE,kR,hr,hb,hs⟩:=h;have hA:=aH W ob;have fQ:=hr.keep hA;have jh:=fQ.1 (eo,l4) (by simp);have g1:=(kG.keep hA).grown r2 (cO jh (kG.keep hA) (by decide));have g2:=(kE.keep hA).grown r2 (cO jh (kE.keep hA) (by decide));have g3:=(kR.keep hA).grown r2 (cO jh (kR.keep hA) (by decide));have gZ:=fQ.app (pre:=[(vi,l1),(ei,l2),(vo,l3)]) r2 r1 r3;have hb4:Below w.heap.size w w':=(hb.trans (hA.mono hb.size)).grown r2 (by have:=hb.size;simp;omega) (λj hj=>by have:=(Zh jh j hj).1;omega);have hz:=r2.size;rw[Zn]at hz;refine⟨g1,g2,⟨?_,?_,g3.other _ _ (by simp),gZ.setB g2 (by decide) 3 v',hb4.setCell (by show w.heap.size<=w.heap.size+2+1;omega) _,by rw[YB];omega⟩⟩
 ·exact g1.other _ _ (by simp)
 ·exact g2.set 3 v'
theorem arK (k v:Int) (nm:ByteArray) (w:World) (hk:k=1) (h0:0<=v) (h1:v<=12):Calls Tryz.prog 107 #[.agg #[.int .i64 k,.int .i64 v,.string nm]] w (nZ (DT v.toNat) w):=by
 subst hk;obtain⟨n,rfl⟩:∃n:Nat,v=n:=⟨v.toNat,by omega⟩
 have aQ:=aH w (.cells #[.int .i64 1,.int .i64 n,.string nm] 116);have aT:=aH (w.alloc (.cells #[.int .i64 1,.int .i64 n,.string nm] 116)) (.cells #[.int .i64 0,.slice none 0 0,.slice none 0 0,.slice none 0 0] 33);have hA:=aQ.trans (aT.mono aQ.size);have kR:=Bk.new (w.alloc (.cells #[.int .i64 1,.int .i64 n,.string nm] 116)) 33 #[.int .i64 0,.slice none 0 0,.slice none 0 0,.slice none 0 0];simp only[Zn]at kR;have hn:n<=12:=by omega
 rw[Zr];go_enter Tryz.func107,Tryz.ntmps107;go_wp2_with fail
 generalize((w.alloc (.cells #[.int .i64 1,.int .i64 n,.string nm] 116)).alloc (.cells #[.int .i64 0,.slice none 0 0,.slice none 0 0,.slice none 0 0] 33))=u0 at *;have eU:=kR.lt;refine(arG n u0 (by omega)).mono ?_;intro e u1 hq;obtain⟨x1,y1,x2,y2,x3,y3,rfl,hg,hb⟩:=hq.q;have oV:=kR.keep hb;obtain⟨iR,fR,zR⟩:=oV.cell;have HG:=Za hg;have HB:=Za (hA.trans (hb.mono hA.size));clear hg hb kR oV hq;generalize hGn:DT n=G at *;obtain⟨gw,ge,gi,gq⟩:=G;clear hGn;dsimp only;go_wp2;refine Zt (v:=.agg #[.int .i64 gw,.slice x1 ge.length y1,.slice x2 gi.length y2,.slice x3 gq.length y3]) (by simp[results,Tryz.results107,go_sem,iR]) rfl ⟨_,_,_,rfl,?_,?_⟩
 ·exact(HG.out.res eU _ _ _ _).mono hA.size
 ·exact iU HB.out (by omega) _ _ _ _
theorem arL (k v:Int) (nm:ByteArray) (w:World) (hk:k=2):Calls Tryz.prog 107 #[.agg #[.int .i64 k,.int .i64 v,.string nm]] w (nZ ⟨2,[],[0,1],[1,0]⟩ w):=by
 subst hk;have hU:∀u:World,w.heap.size+1<u.heap.size->Rw ((u.alloc (.cells #[.int .i64 0,.int .i64 1] 3)).alloc (.cells #[.int .i64 1,.int .i64 0] 3)) (w.heap.size+1+1) (.slice (some ⟨u.heap.size,0,none⟩) 2 2) [0,1]/\Rw ((u.alloc (.cells #[.int .i64 0,.int .i64 1] 3)).alloc (.cells #[.int .i64 1,.int .i64 0] 3)) (w.heap.size+1+1) (.slice (some ⟨u.heap.size+1,0,none⟩) 2 2) [1,0]:=λu hu=>by
  have h1:=acS u (w.heap.size+1+1) 0 1 (by omega);have h2:=acS (u.alloc (.cells #[.int .i64 0,.int .i64 1] 3)) (w.heap.size+1+1) 1 0 (by simp;omega);rw[Zn]at h2;exact⟨h1.keep (aH _ _),h2⟩
 have HU:=Za hU;clear hU;go_enter Tryz.func107,Tryz.ntmps107;go_wp2;refine Zt (v:=.agg #[.int .i64 2,.slice none 0 0,.slice (some ⟨w.heap.size+1+1,0,none⟩) 2 2,.slice (some ⟨w.heap.size+1+1+1,0,none⟩) 2 2]) (by simp[results,Tryz.results107,go_sem]) rfl ⟨_,_,_,rfl,?_,?_⟩
 ·have hh:=HU.out ((w.alloc (.cells #[.int .i64 2,.int .i64 v,.string nm] 116)).alloc (.cells #[.int .i64 2,.slice none 0 0,.slice (some ⟨w.heap.size+1+1,0,none⟩) 2 2,.slice (some ⟨w.heap.size+1+1+1,0,none⟩) 2 2] 33)) (by simp);simp only[Zn]at hh;exact⟨mW.nil _ _,hh.1.mono (by omega),hh.2.mono (by omega)⟩
 ·exact((((Zl _ _).alloc (Zj _) _).alloc (by simp) _).alloc (by simp;omega) _).alloc (by simp;omega) _
theorem arM (k v:Int) (nm:ByteArray) (w:World) (h0:3<=k) (h1:k<=14):Calls Tryz.prog 107 #[.agg #[.int .i64 k,.int .i64 v,.string nm]] w (nZ (Bf k v (fJ k).1.toNat (fJ k).2.toNat) w):=by
 have qY:=λu=>adL k u;obtain⟨a,b,ha,hb,hle⟩:∃a b:Nat,fJ k=((a:Int),(b:Int))/\a+b<=4/\True:=by
  refine⟨(fJ k).1.toNat,(fJ k).2.toNat,?_,?_,trivial⟩
  ·unfold fJ;repeat' split
   all_goals rfl
  ·unfold fJ;repeat' split
   all_goals decide
 rw[ha]at qY;rw[ha];simp only[Zr]at qY ⊢;have HGW:=Za qY;clear qY ha hle;have aQ:=aH w (.cells #[.int .i64 k,.int .i64 v,.string nm] 116);have aT:=aH (w.alloc (.cells #[.int .i64 k,.int .i64 v,.string nm] 116)) (.cells #[.int .i64 0,.slice none 0 0,.slice none 0 0,.slice none 0 0] 33);have hA:=aQ.trans (aT.mono aQ.size);have kN:=(Bk.new w 116 #[.int .i64 k,.int .i64 v,.string nm]).keep aT;have kR:=Bk.new (w.alloc (.cells #[.int .i64 k,.int .i64 v,.string nm] 116)) 33 #[.int .i64 0,.slice none 0 0,.slice none 0 0,.slice none 0 0];simp only[Zn]at kR;clear aQ aT;have uZ:¬k=1:=by omega
 have hk2:¬k=2:=by omega
 have hw:IntKind.i64.wrap ((a:Int)+b)=(a:Int)+b:=Z8 _ (by omega);have hsz:((w.alloc (.cells #[.int .i64 k,.int .i64 v,.string nm] 116)).alloc (.cells #[.int .i64 0,.slice none 0 0,.slice none 0 0,.slice none 0 0] 33)).heap.size=w.heap.size+2:=by simp
 have HB:=Za (λu=>(HGW.out u));go_enter Tryz.func107,Tryz.ntmps107;go_wp2_with fail
 generalize((w.alloc (.cells #[.int .i64 k,.int .i64 v,.string nm] 116)).alloc (.cells #[.int .i64 0,.slice none 0 0,.slice none 0 0,.slice none 0 0] 33))=u0 at *;refine(HGW.out u0).mono ?_;rintro e u1⟨rfl,rfl⟩;obtain⟨iN,-,zN⟩:=kN.cell;go_wp2_with fail
 have k8:=Bk.new u0 33 #[.int .i64 ((a:Int)+b),.slice none 0 0,.slice none 0 0,.slice none 0 0];have dV:=aH u0 (.cells #[.int .i64 ((a:Int)+b),.slice none 0 0,.slice none 0 0,.slice none 0 0] 33);have k9:=Bk.new (u0.alloc (.cells #[.int .i64 ((a:Int)+b),.slice none 0 0,.slice none 0 0,.slice none 0 0] 33)) 102 #[.int .i64 k,.int .i64 v,.slice none 0 0,.slice none 0 0];have fP:=aH (u0.alloc (.cells #[.int .i64 ((a:Int)+b),.slice none 0 0,.slice none 0 0,.slice none 0 0] 33)) (.cells #[.int .i64 k,.int .i64 v,.slice none 0 0,.slice none 0 0] 102);rw[Zn,hsz]at k9;rw[hsz]at k8;have hst:Dk w ((u0.alloc (.cells #[.int .i64 ((a:Int)+b),.slice none 0 0,.slice none 0 0,.slice none 0 0] 33)).alloc (.cells #[.int .i64 k,.int .i64 v,.slice none 0 0,.slice none 0 0] 102)) (.int .i64 ((a:Int)+b)) k v (.slice none 0 0) (.slice none 0 0) (.slice none 0 0) (.slice none 0 0) (dW (min 0 a)) (dW (min 0 a)) (bY a (0-a)) (bY a (0-a)):=by
  have q0:dW (min 0 a)=[]:=by simp[dW]
  have q1:bY a (0-a)=[]:=by simp[bY]
  rw[q0,q1];refine⟨k8.keep fP,k9,(kR.keep dV).keep fP,⟨λx hx=>?_,by simp[Value.ownBlock]⟩,hA.trans ((dV.trans (fP.mono dV.size)).mono hA.size),by simp;omega⟩;simp only[ZU,YM,XM,or_self]at hx;subst hx;exact Ye _ _ _ _
 clear k8 dV k9 fP kR kN iN zN hA hsz;go_loopw [7] (λi wr=>∃t:Nat,t<=a+b/\i=.int .i64 t/\∃vi ei vo eo,Dk w wr (.int .i64 ((a:Int)+b)) k v vi ei vo eo (dW (min t a)) (dW (min t a)) (bY a (t-a)) (bY a (t-a))) (λi _=>a+b-(intOf i).toNat)
 case atStart=>exact⟨0,Zw _,rfl,_,_,_,_,hst⟩
 case round =>
  clear hst;obtain⟨t,ht,rfl,vi,ei,vo,eo,hst⟩:=hrel;obtain⟨ai,ci,rfl⟩:=(show Rw wr (w.heap.size+4) vi (dW (min t a))from hst.rows.1 (vi,dW (min t a)) (by simp)).slice;obtain⟨ae,ce,rfl⟩:=(show Rw wr (w.heap.size+4) ei (dW (min t a))from hst.rows.1 (ei,dW (min t a)) (by simp)).slice;obtain⟨ao,co,rfl⟩:=(show Rw wr (w.heap.size+4) vo (bY a (t-a))from hst.rows.1 (vo,bY a (t-a)) (by simp)).slice;obtain⟨aq,cq,rfl⟩:=(show Rw wr (w.heap.size+4) eo (bY a (t-a))from hst.rows.1 (eo,bY a (t-a)) (by simp)).slice;rw[oh,rP]at hst;by_cases hlt:t<a+b
  ·have Ul:(t:Int)<(a:Int)+b:=by omega
   by_cases hta:t<a
   ·have e1:min t a=t:=by omega
    have e2:min (t+1) a=t+1:=by omega
    have e3:t-a=0:=by omega
    have e4:t+1-a=0:=by omega
    rw[e1,e3]at hst;have E2:=Za e2;have E4:=Za e4;clear e1 e2 e3 e4;have ug:=Za hst;obtain⟨jg,gg,yg⟩:=hst.kG.cell;obtain⟨je,ge,ye⟩:=hst.kE.cell;clear hst;go_wp2_with (at_builtin;refine Y7 ?_)
    refine Za ?_;clear jg gg yg je ge ye;have j_:=Dy wr (t:Int);refine yZ j_ rfl (.tmp 46) (.tmp 48) rfl (w.heap.size+4) (.slice ai t ci) (dW t) rfl rfl ((ug.out.rows.keep (aH wr _)).1 (.slice ai t ci,dW t) (by simp)) (by have:=ug.out.sz;simp;omega) (by rw[oh];simp;omega) ?_;intro v1 w1 r1 r2 r3;rw[<-ada]at r1;obtain⟨x1,c1,rfl⟩:=r1.slice;rw[oh]at r1 r3 ⊢;obtain⟨kg,ke,hst⟩:=ug.out.app1 r1 r2 r3;clear r1 r2 r3 ug j_;obtain⟨jg,gg,yg⟩:=kg.cell;obtain⟨je,ge,ye⟩:=ke.cell;clear kg ke;go_wp2_with (at_builtin;refine Y7 ?_)
    refine Za ?_;have hs2:=YB w1 ⟨w.heap.size+2,2,none⟩ (.slice x1 (t+1) c1);have HS2:=Za hst;clear hst;generalize(w1.setCell ⟨w.heap.size+2,2,none⟩ (.slice x1 (t+1) c1))=W2 at *;clear jg gg yg je ge ye;have j_:=Dy W2 (t:Int);rw[hs2]at j_;refine yZ j_ rfl (.tmp 52) (.tmp 54) rfl (w.heap.size+4) (.slice ae t ce) (dW t) rfl rfl ((HS2.out.rows.keep (aH W2 _)).1 (.slice ae t ce,dW t) (by simp)) (by have:=HS2.out.sz;simp;omega) (by rw[oh];simp;omega) ?_;intro v2 w2 r1 r2 r3;rw[<-ada]at r1;obtain⟨x2,c2,rfl⟩:=r1.slice;rw[oh]at r1 r3 ⊢;obtain⟨kg,ke,hst⟩:=HS2.out.RU r1 r2 r3;clear r1 r2 r3 HS2 j_ hs2;obtain⟨jg,gg,yg⟩:=kg.cell;obtain⟨je,ge,ye⟩:=ke.cell;clear kg ke;have HST:=Za hst;clear hst;go_wp2;go_roundw
    case rel=>exact⟨t+1,by omega,by go_num,_,_,_,_,by rw[E2.out,E4.out];exact HST.out⟩
    case measure=>simp[intOf];omega
   ·have e1:min t a=a:=by omega
    have e2:min (t+1) a=a:=by omega
    have e4:t+1-a=t-a+1:=by omega
    have e5:((t-a+a:Nat):Int)=(t:Int):=by omega
    obtain⟨q,hq⟩:∃q,t-a=q:=⟨_,rfl⟩
    rw[e1,hq]at hst;rw[hq]at e4 e5;have E2:=Za e2;have E4:=Za e4;have E5:=Za e5;have awg:¬(t:Int)<(a:Int):=by omega
    clear e1 e2 e4 e5;have ug:=Za hst;obtain⟨jg,gg,yg⟩:=hst.kG.cell;obtain⟨je,ge,ye⟩:=hst.kE.cell;clear hst;go_wp2_with (at_builtin;refine Y7 ?_)
    refine Za ?_;clear jg gg yg je ge ye;have j_:=Dy wr (t:Int);refine yZ j_ rfl (.tmp 58) (.tmp 60) rfl (w.heap.size+4) (.slice ao q co) (bY a q) rfl rfl ((ug.out.rows.keep (aH wr _)).1 (.slice ao q co,bY a q) (by simp)) (by have:=ug.out.sz;simp;omega) (by rw[rP];simp;omega) ?_;intro v1 w1 r1 r2 r3;rw[<-E5.out,<-akf]at r1;obtain⟨x1,c1,rfl⟩:=r1.slice;rw[rP]at r1 r3 ⊢;obtain⟨kg,ke,hst⟩:=ug.out.arH r1 r2 r3;clear r1 r2 r3 ug j_;obtain⟨jg,gg,yg⟩:=kg.cell;obtain⟨je,ge,ye⟩:=ke.cell;clear kg ke;go_wp2_with (at_builtin;refine Y7 ?_)
    refine Za ?_;have hs2:=YB w1 ⟨w.heap.size+2,3,none⟩ (.slice x1 (q+1) c1);have HS2:=Za hst;clear hst;generalize(w1.setCell ⟨w.heap.size+2,3,none⟩ (.slice x1 (q+1) c1))=W2 at *;clear jg gg yg je ge ye;have j_:=Dy W2 (t:Int);rw[hs2]at j_;refine yZ j_ rfl (.tmp 64) (.tmp 66) rfl (w.heap.size+4) (.slice aq q cq) (bY a q) rfl rfl ((HS2.out.rows.keep (aH W2 _)).1 (.slice aq q cq,bY a q) (by simp)) (by have:=HS2.out.sz;simp;omega) (by rw[rP];simp;omega) ?_;intro v2 w2 r1 r2 r3;rw[<-E5.out,<-akf]at r1;obtain⟨x2,c2,rfl⟩:=r1.slice;rw[rP]at r1 r3 ⊢;obtain⟨kg,ke,hst⟩:=HS2.out.arJ r1 r2 r3;clear r1 r2 r3 HS2 j_ hs2;obtain⟨jg,gg,yg⟩:=kg.cell;obtain⟨je,ge,ye⟩:=ke.cell;clear kg ke;have HST:=Za hst;clear hst;go_wp2;go_roundw
    case rel=>exact⟨t+1,by omega,by go_num,_,_,_,_,by rw[E2.out,E4.out];exact HST.out⟩
    case measure=>simp[intOf];omega
  ·have e1:min t a=a:=by omega
   have e3:t-a=b:=by omega
   have htI:¬(t:Int)<(a:Int)+b:=by omega
   rw[e1,e3]at hst;obtain⟨W5,Lc⟩:∃W5,W5=(((((wr.setCell ⟨w.heap.size+2,1,none⟩ (.slice (some ⟨wr.heap.size,0,none⟩) 1 1)).setCell ⟨w.heap.size+1,0,none⟩ (.int .i64 ((a:Int)+b))).setCell ⟨w.heap.size+1,1,none⟩ (.slice (some ⟨wr.heap.size,0,none⟩) 1 1)).setCell ⟨w.heap.size+1,2,none⟩ (.slice ai a ci)).setCell ⟨w.heap.size+1,3,none⟩ (.slice ao b co)):=⟨_,rfl⟩
   have D6:W5.heap.size=wr.heap.size:=by rw[Lc];simp
   have low:∀(u:Value) l,Rw wr (w.heap.size+4) u l->Rw W5 (w.heap.size+4) u l:=λu l hu=>by
    rw[Lc];exact((((hu.other ⟨w.heap.size+2,1,none⟩ _ (by show w.heap.size+2<w.heap.size+4;omega)).other ⟨w.heap.size+1,0,none⟩ _ (by show w.heap.size+1<w.heap.size+4;omega)).other ⟨w.heap.size+1,1,none⟩ _ (by show w.heap.size+1<w.heap.size+4;omega)).other ⟨w.heap.size+1,2,none⟩ _ (by show w.heap.size+1<w.heap.size+4;omega)).other ⟨w.heap.size+1,3,none⟩ _ (by show w.heap.size+1<w.heap.size+4;omega)
   have gK:=aH W5 (.cells #[.int .i64 k,.int .i64 v,.slice ae a ce,.slice aq b cq] 102);have kE:=Bk.new W5 102 #[.int .i64 k,.int .i64 v,.slice ae a ce,.slice aq b cq];rw[D6]at kE;have hi:=(low _ _ (hst.rows.1 (.slice ai a ci,dW a) (by simp))).keep gK;have he:=(low _ _ (hst.rows.1 (.slice ae a ce,dW a) (by simp))).keep gK;have ho:=(low _ _ (hst.rows.1 (.slice ao b co,bY a b) (by simp))).keep gK;have hq:=(low _ _ (hst.rows.1 (.slice aq b cq,bY a b) (by simp))).keep gK;have dL:mO (W5.alloc (.cells #[.int .i64 k,.int .i64 v,.slice ae a ce,.slice aq b cq] 102)) (w.heap.size+4) (.slice (some ⟨wr.heap.size,0,none⟩) 1 1) [(⟨k,v,dW a,bY a b⟩,.slice ae a ce,.slice aq b cq)] :=
    ⟨⟨rfl,.inr ⟨wr.heap.size,1,_,rfl,hst.sz,kE,Zj _,by unfold maxLen;omega,rfl,rfl⟩⟩,λy hy=>by
     obtain rfl:=ZS.1 hy;exact⟨he,hq⟩⟩
   have HG:=Za (show dB (W5.alloc (.cells #[.int .i64 k,.int .i64 v,.slice ae a ce,.slice aq b cq] 102)) (w.heap.size+4) (.slice (some ⟨wr.heap.size,0,none⟩) 1 1) (.slice ai a ci) (.slice ao b co) (Bf k v a b)from⟨dL.o,hi,ho⟩);have bH:Below w.heap.size w W5:=by rw[Lc];exact iU (hst.bel.setCell (by simp) _) (by omega) _ _ _ _
   have HB:=Za (bH.trans (gK.mono (by rw[D6];exact hst.bel.size)));obtain⟨jg,gg,yg⟩:=hst.kG.cell;obtain⟨je,ge,ye⟩:=hst.kE.cell;obtain⟨iR,fR,zR⟩:=hst.kR.cell;have hz2:w.heap.size+2<wr.heap.size:=yg;have jH:¬w.heap.size+1=w.heap.size+2:=by omega
   have jI:¬w.heap.size+2=w.heap.size+1:=by omega
   have Iu:¬wr.heap.size=w.heap.size+2:=by omega
   have hn4:¬wr.heap.size=w.heap.size+1:=by omega
   have HW5:=Za Lc;clear hst gK kE hi he ho hq dL low bH D6 Lc;go_wp2;refine Zt (v:=.agg #[.int .i64 ((a:Int)+b),.slice (some ⟨wr.heap.size,0,none⟩) 1 1,.slice ai a ci,.slice ao b co]) (by simp[results,Tryz.results107,go_sem,iR,fR,zR]) rfl ?_;rw[<-HW5.out];exact⟨_,_,_,rfl,HG.out.mono (by omega),HB.out⟩
theorem arN (n:Nd) (w:World) (h:jB n=true):Calls Tryz.prog 107 #[.agg #[.int .i64 n.kind,.int .i64 n.value,.string n.name]] w (nZ (vM n) w):=by
 unfold jB at h;simp only[Zu,ZF]at h;obtain⟨⟨⟨h0,h1⟩,h2⟩,h3⟩:=h;unfold vM;by_cases hk:n.kind=1
 ·rw[ZE hk];rw[ZE hk]at h3;simp only[Zu,ZF]at h3;exact arK _ _ _ w hk h3.1 h3.2
 ·rw[ZH hk];by_cases hk2:n.kind=2
  ·rw[ZE hk2];exact arL _ _ _ w hk2
  ·rw[ZH hk2];exact arM _ _ _ w (by omega) h2
end Go.Proofs.YtkhpobekconobaaGreat
