import Derived.Test.YtkhpobekconobaaGreatHBQ
set_option linter.all false
set_option maxRecDepth 100000
set_option maxHeartbeats 0
namespace Go.Proofs.YtkhpobekconobaaGreat
open Go.RowKit
structure auO (xs:List QT):Prop where
 one:∀x∈xs,Apart x.2.1 x.2.2
 two:xs.Pairwise λx y=>abA x.2 y.2
def uT (w:World) (B:Nat) (v:Value) (ms:List mD) (ys:List qy):Prop:=∃xs:List QT,xs.map Prod.fst=ms/\MvX w B v xs/\auO xs/\∀x∈xs,∀y∈ys,abA x.2 y.2
theorem uT.r {w:World} {B:Nat} {v:Value} {ms:List mD} {ys:List qy} (h:uT w B v ms ys):nC w B v ms:=by
 obtain⟨xs,h1,h2,_⟩:=h;exact⟨xs,h1,h2⟩
theorem uT.keep {w w':World} {B:Nat} {v:Value} {ms:List mD} {ys:List qy} (hb:Below w.heap.size w w') (h:uT w B v ms ys):uT w' B v ms ys:=by
 obtain⟨xs,h1,h2,h3⟩:=h;exact⟨xs,h1,h2.keep hb,h3⟩
theorem uT.less {w:World} {B:Nat} {v:Value} {ms:List mD} {ys ys':List qy} (hs:∀y∈ys',y∈ys) (h:uT w B v ms ys):uT w B v ms ys':=by
 obtain⟨xs,h1,h2,h3,h4⟩:=h;exact⟨xs,h1,h2,h3,λx hx y hy=>h4 x hx y (hs y hy)⟩
theorem uT.nil (w:World) (B:Nat) (v:Value) (ys:List qy) (h:nC w B v []):uT w B v [] ys:=by
 obtain⟨xs,h1,h2⟩:=h;obtain rfl:=List.map_eq_nil_iff.1 h1;exact⟨[],rfl,h2,⟨λ_ h=>(by cases h),Xf⟩,λ_ h=>(by cases h)⟩
theorem uT.next {w w':World} {B U:Nat} {v:Value} {ms:List mD} {ys ys':List qy} (h:uT w B v ms ys) (hU:w.heap.size<=U) (hy:∀y∈ys',Rw w' U y.2.1 y.1.aB/\Rw w' U y.2.2 y.1.ah):uT w B v ms ys':=by
 obtain⟨xs,h1,h2,h3,h4⟩:=h;refine⟨xs,h1,h2,h3,λx hx y hyy=>?_⟩;have l1:=λj hj=>(Zh (h2.rws x hx).1 j hj).2;have l2:=λj hj=>(Zh (h2.rws x hx).2 j hj).2;have g1:=λj hj=>(Zh (hy y hyy).1 j hj).1;have g2:=λj hj=>(Zh (hy y hyy).2 j hj).1;exact⟨λk h h'=>by have:=l1 k h;have:=g1 k h';omega,λk h h'=>by have:=l1 k h;have:=g2 k h';omega,λk h h'=>by have:=l2 k h;have:=g1 k h';omega,λk h h'=>by have:=l2 k h;have:=g2 k h';omega⟩
theorem BA.read {w:World} {B:Nat} {v:Value} {xs:List qy} (h:BA w B v xs):nD 2 v xs.length λi b o=>∃(hi:i<xs.length),w.cell? ⟨b,o,none⟩=some xs[i].2.1/\w.cell? ⟨b,o+1,none⟩=some xs[i].2.2/\Rw w B xs[i].2.1 xs[i].1.aB/\Rw w B xs[i].2.2 xs[i].1.ah:=by
 refine Me h.row _ λi b o hi hc=>⟨hi,?_⟩
 have g:∀j,j<2->w.cell? ⟨b,o+j,none⟩=(D5 xs[i])[j]?:=λj hj=>(hc j hj).trans (flat_get aj2 xs i j hi hj);have hh:=h.rws xs[i] (Zp hi);exact⟨g 0 (by omega),g 1 (by omega),hh.1,hh.2⟩
theorem BA.slice {w:World} {B:Nat} {v:Value} {xs:List qy} (h:BA w B v xs):∃a c,v=.slice a xs.length c:=by
 have:=lT.slice ⟨xs,rfl,h⟩;rwa [ZG]at this
theorem BA.mono {w:World} {B B':Nat} {v:Value} {xs:List qy} (hB:B'<=B) (h:BA w B v xs):BA w B' v xs:=⟨FD hB h.row,λx hx=>⟨(h.rws x hx).1.mono hB,(h.rws x hx).2.mono hB⟩⟩
theorem nC.auP {w w':World} {B B2:Nat} {v u:Value} {ms:List mD} {ys:List qy} (h:nC w B v ms) (hg:w.grownBy w' v.ownBlock) (hr:BA w B2 u ys):BA w' B2 u ys :=
 ⟨aaS hr.row hg (h.apart hr.row (by decide)),λx hx=>⟨h.grown hg (hr.rws x hx).1,h.grown hg (hr.rws x hx).2⟩⟩
theorem auQ {w:World} {ops:Array Oper} {rest:List Oper} {o:Oper} {a:Act} {Q:Exit->Act->World->Prop} (hgd:o.guard=none) (s x:Operand)
  (ho:o.op=.call { callee:=.builtin .append,args:=#[s,x],argTypes:=#[40,40] })
  (B:Nat) (v:Value) (ms:List mD) (y:qy) (ys:List qy) (hs:a.eval s=v) (hrow:uT w B v ms (y::ys)) (b:Nat) (m:mD) (hm:m.mt=y.1) (hx:a.eval x=.slice (some ⟨b,0,none⟩) 1 1) (hb:Bk w b 79 #[.int .i64 ((m.rule:Nat):Int),.bool false,y.2.1,y.2.2]) (h1:Rw w B y.2.1 y.1.aB) (h2:Rw w B y.2.2 y.1.ah) (hap:Apart y.2.1 y.2.2) (nS:∀z∈ys,abA y.2 z.2) (hB:B<=w.heap.size) (hl:ms.length<=100000)
  (H:∀v' w',uT w' B v' (ms++[m]) ys->w.grownBy w' v.ownBlock->(v'.ownBlock=v.ownBlock\/v'.ownBlock=some w.heap.size)->wpList Tryz.prog ops Q rest (a.put o.dst v') w'):wpList Tryz.prog ops Q (o::rest) a w:=by
 obtain⟨i0,hi,hz0,hz1,hz2⟩:=Yg akT;obtain⟨xs,rfl,hX,hAp,hS⟩:=hrow;rw[ZG]at hl;rw[<-hm]at h1 h2;have w_:AO w 4 (.slice (some ⟨b,0,none⟩) 1 1) 1 (QU (m,y.2.1,y.2.2)):=⟨rfl,.inr ⟨_,_,rfl,λj u hj=>by
  rw[addr_add,Yp,hb.cell.1 j];simpa[QU]using hj⟩⟩
 refine JQ hgd s x 40 ho B 79 i0 _ 4 64 Tryz.underlying40 hi hz0 hz1 hz2 rfl (by decide) v xs.length _ hs hX.row _ 1 _ hx w_ (akV (y:=(m,y.2.1,y.2.2)) h1 h2) (by unfold maxLen;omega) (by omega) hB ?_;intro v' w' r1 r2 r3;have hM:nC w B v (xs.map Prod.fst):=⟨xs,rfl,hX⟩
 refine H v' w' ⟨xs++[(m,y.2.1,y.2.2)],by simp,⟨?_,λz hz=>?_⟩,⟨λz hz=>?_,?_⟩,λz hz u hu=>?_⟩ r2 r3
 ·rw[Zk,ZL];simpa using r1
 ·rcases Zs.1 hz with hz|hz
  ·exact⟨hM.grown r2 (hX.rws z hz).1,hM.grown r2 (hX.rws z hz).2⟩
  ·obtain rfl:=ZS.1 hz;exact⟨hM.grown r2 h1,hM.grown r2 h2⟩
 ·rcases Zs.1 hz with hz|hz
  ·exact hAp.one z hz
  ·obtain rfl:=ZS.1 hz;exact hap
 ·refine YO.2 ⟨hAp.two,VY _ _,λp hp q hq=>?_⟩;obtain rfl:=ZS.1 hq;exact hS p hp y (.head _)
 ·rcases Zs.1 hz with hz|hz
  ·exact hS z hz u (.tail _ hu)
  ·obtain rfl:=ZS.1 hz;exact nS u hu
def agK (ms:List mD) (w:World) (e:Ending) (w':World):Prop:=∃v,e=.returned v/\uT w' w.heap.size v ms []/\Below w.heap.size w w'
theorem agK.p {ms:List mD} {w w':World} {e:Ending} (h:agK ms w e w'):adk ms w e w':=by
 obtain⟨v,h1,h2,h3⟩:=h;exact⟨v,h1,h2.r,h3⟩
open Go.Maps
structure Ij (w wr:World) (JD lcs:Array Value) (bl:Nat) (vm ov:Value) (ys:List qy) (j:Nat) (ms:List mD):Prop where
 kd:Bk wr w.heap.size 69 JD
 kl:Bk wr bl 66 lcs
 hm:BA wr w.heap.size vm ys
 mv:uT wr w.heap.size ov ms (ys.drop j)
 bel:Below w.heap.size w wr
theorem Ij.keep {w wr w':World} {JD lcs:Array Value} {bl:Nat} {vm ov:Value} {ys:List qy} {j:Nat} {ms:List mD} (h:Ij w wr JD lcs bl vm ov ys j ms) (hb:Below wr.heap.size wr w'):Ij w w' JD lcs bl vm ov ys j ms :=
 ⟨h.kd.keep hb,h.kl.keep hb,h.hm.keep hb,h.mv.keep hb,h.bel.trans (hb.mono h.bel.size)⟩
theorem Ij.less {w wr:World} {JD lcs:Array Value} {bl:Nat} {vm ov:Value} {ys:List qy} {j:Nat} {ms:List mD} (h:Ij w wr JD lcs bl vm ov ys j ms):Ij w wr JD lcs bl vm ov ys (j+1) ms :=
 ⟨h.kd,h.kl,h.hm,h.mv.less (λy hy=>List.mem_of_mem_drop (i:=1) (by rw[List.drop_drop];exact hy)),h.bel⟩
theorem Ij.app {w wr w':World} {JD lcs:Array Value} {bl:Nat} {vm ov ov':Value} {ys:List qy} {j j':Nat} {ms ms':List mD} (h:Ij w wr JD lcs bl vm ov ys j ms) (hg:wr.grownBy w' ov.ownBlock) (hr:uT w' w.heap.size ov' ms' (ys.drop j')):Ij w w' JD lcs bl vm ov' ys j' ms' :=
 ⟨h.kd.grown hg (h.mv.r.ne h.kd (by decide)),h.kl.grown hg (h.mv.r.ne h.kl (by decide)),h.mv.r.auP hg h.hm,hr,h.bel.grown hg h.bel.size (λj hj=>(h.mv.r.lt j hj).1)⟩
theorem auR (g:aF) (rs:List dP) (W:Nat) (hW:g.aB=W) (hg:aY g=true) (hn:Bj g) (zZ:∀r∈rs,Oe r) (hl:rs.length<=20) (vg gi go vr:Value) (w:World) (hG:dM w vg gi go g) (hR:qQ w vr rs) :
  Calls Tryz.prog 36 #[.agg #[.int .i64 (W:Int),vg,gi,go,vr]] w (agK (o_ g rs rs.length) w):=by
 obtain⟨⟨ga,gc,rfl⟩,⟨ia,ic,rfl⟩,oa,oc,rfl⟩:=hG.slices;obtain⟨ra,rc,rfl,hrc,Hy⟩:=hR;have hB:=aH w (.cells #[.int .i64 (W:Int),.slice ga g.ah.length gc,.slice ia g.aj.length ic,.slice oa g.ay.length oc,.slice ra rs.length rc] 69);have kG:=Bk.new w 69 #[.int .i64 (W:Int),.slice ga g.ah.length gc,.slice ia g.aj.length ic,.slice oa g.ay.length oc,.slice ra rs.length rc];have HG:=Za hG;have jf:=Za (Zb hW (Zb hg (Zb hn zZ)));have HAT:=Za Hy;clear hG Hy hW hg hn zZ;go_enter Tryz.func36,Tryz.ntmps36;go_wp2_with fail
 have hA0:=aH (w.alloc (.cells #[.int .i64 (W:Int),.slice ga g.ah.length gc,.slice ia g.aj.length ic,.slice oa g.ay.length oc,.slice ra rs.length rc] 69)) (.cells #[] 79);have amV:uT ((w.alloc (.cells #[.int .i64 (W:Int),.slice ga g.ah.length gc,.slice ia g.aj.length ic,.slice oa g.ay.length oc,.slice ra rs.length rc] 69)).alloc (.cells #[] 79)) w.heap.size (.slice (some ⟨w.heap.size+1,0,none⟩) 0 0) [] []:=uT.nil _ _ _ _ ⟨[],rfl,by
  have h:=X6 (base:=w.heap.size) (size:=4) (e:=79) (w.alloc (.cells #[.int .i64 (W:Int),.slice ga g.ah.length gc,.slice ia g.aj.length ic,.slice oa g.ay.length oc,.slice ra rs.length rc] 69)) #[] 0 (by simp) (by unfold maxLen;omega) rfl;simpa using h,by simp⟩
 replace kG:=kG.keep hA0;replace hB:=hB.trans (hA0.mono hB.size);clear hA0;generalize((w.alloc (.cells #[.int .i64 (W:Int),.slice ga g.ah.length gc,.slice ia g.aj.length ic,.slice oa g.ay.length oc,.slice ra rs.length rc] 69)).alloc (.cells #[] 79))=u0 at *;go_loopw [3,15] (λov i wr=>∃k:Nat,k<=rs.length/\i=.int .i64 k/\Bk wr w.heap.size 69 #[.int .i64 (W:Int),.slice ga g.ah.length gc,.slice ia g.aj.length ic,.slice oa g.ay.length oc,.slice ra rs.length rc]/\uT wr w.heap.size ov (o_ g rs k) []/\Below w.heap.size w wr) (λ_ i _=>rs.length-(intOf i).toNat)
 case atStart=>exact⟨0,Zw _,rfl,kG,amV,hB⟩
 case round =>
 clear kG hB amV;obtain⟨k,hk,rfl,kG,Hz,hB⟩:=hrel;by_cases hlt:k<rs.length
 ·obtain⟨b,o,rfl,hir,sO⟩:=HAT.out k hlt;have hrg:=jf.out.2.2.2 _ (Zp hlt);have xu:=af0 g rs k;have hgd:rs.getD k abo=rs[k]:=by rw[Zg,Zi hlt];rfl
  unfold UJ at xu;rw[hgd]at xu;generalize rs[k]=r at *;obtain⟨z1,vl,U4,z2,z3,lD,xI⟩:=sO;obtain⟨al,cl,rfl⟩:=lD.slice;obtain⟨ar,cr,rfl⟩:=xI.slice;have Qj:=hrg.sd;have y1:=aK hB z1;have y2:=aK hB z2;have y3:=aK hB z3;have yz:=cell_lt y1;have IX:=Za xu;have xJ:=Za Qj;obtain⟨x,_,_,Kz,-⟩:=hrg;obtain⟨q,hq⟩:∃q,q=uh r:=⟨_,rfl⟩
  obtain⟨p,hp⟩:∃p,p=xE r:=⟨_,rfl⟩
  have HPA:=Za (λ(u:World) (hu:Below w.heap.size w u)=>(show Calls Tryz.prog 63 #[.agg #[.string r.name,.slice al r.left.length cl,.slice ar r.right.length cr]] u (nZ q u)from by rw[hq];exact alK r.name al ar _ cl _ cr r.left x u (lD.keep hu) Kz.tl));have Eh:=Za (λ(u:World) (hu:Below w.heap.size w u)=>(show Calls Tryz.prog 89 #[.agg #[.string r.name,.slice al r.left.length cl,.slice ar r.right.length cr]] u (nZ p u)from by rw[hp];exact alL r.name al ar _ cl _ cr r.right x u (xI.keep hu) Kz.tr));obtain⟨⟨V,hV,hVn⟩,-⟩:=eF xJ.out.gl;obtain⟨⟨R,hR,UK⟩,-⟩:=eF xJ.out.gr;rw[<-hq]at hV;rw[<-hp]at hR;have HV:=Za (Zb hV hR);have LH:=Za (show(xU g q).take 100=o8 g q from by unfold o8;rw[ZH (by rw[hq];have:=xJ.out.el;omega)];rfl);have HMA:=Za (λ(u:World) (v1 v2 v3:Value) (hu:Below w.heap.size w u) (h:dM u v1 v2 v3 q)=>(show Calls Tryz.prog 62 #[.agg #[.int .i64 (W:Int),.slice ga g.ah.length gc,.slice ia g.aj.length ic,.slice oa g.ay.length oc],.agg #[.int .i64 (V:Int),v1,v2,v3],.int .i64 100] u (MaA (o8 g q) u)from by
   have h1:=auM g q W V 100 (by rw[hq];exact adh jf.out.2.1 jf.out.2.2.1 xJ.out.gl xJ.out.ml.nd jf.out.1 (by rw[<-hq];exact hV)) _ (.slice ia g.aj.length ic) (.slice oa g.ay.length oc) v1 v2 v3 u (HG.out.keep hu).ed h.ed (by omega) (by omega);rw[LH.out]at h1;exact h1))
  have Jq:=Za (λ(m:aX) (hm:m∈o8 g q) (u:World) (vx vy:Value) (hu:Below w.heap.size w u) (h3:aU u vx m.aB) (h4:aU u vy m.ah)=>(show Calls Tryz.prog 64 #[.agg #[.int .i64 (W:Int),.slice ga g.ah.length gc,.slice ia g.aj.length ic,.slice oa g.ay.length oc,.slice (some ⟨b,o,none⟩) rs.length rc],.agg #[.int .i64 (k:Int),.bool false,vx,vy]] u (AtP (uK g q p m) u)from
   auu r.name al ar _ cl _ cr g q p m W V R b o rs.length rc k (by rw[hq,hp];exact adi jf.out.2.1 jf.out.2.2.1 xJ.out (by rw[<-hq];exact hm)) jf.out.2.2.1 (by rw[hq];exact xJ.out.ml.nd) jf.out.1 hV hR _ _ _ _ _ u (HG.out.keep hu) h3 h4 hlt (by omega) (aK hu z1) (aK hu z2) (aK hu z3) (λu' xY=>HPA.out u' (hu.trans (xY.mono hu.size))) (λu' xY=>Eh.out u' (hu.trans (xY.mono hu.size)))))
  have agf:=Za (show o_ g rs (k+1)=o_ g rs k++o9 g r k (o8 g q)from by rw[hq];exact IX.out);have C_:=Za (show ∀ml m,o9 g r k (ml++[m])=o9 g r k ml++if aY (uK g q p m)=true then[⟨k,m⟩]else[]from λml m=>by rw[akM];unfold okM;rw[<-hq,<-hp]);have sN:=akP g q;have aQ:=aH wr (.cells (#[.string r.name,.slice al r.left.length cl,.slice ar r.right.length cr]) 66);have gG:=kG.keep aQ;have SX:=Bk.new wr 66 (#[.string r.name,.slice al r.left.length cl,.slice ar r.right.length cr]);have aS:=hB.trans (aQ.mono hB.size);have abv:=Hz.keep aQ;obtain⟨oa',oc',rfl⟩:=Hz.r.slice;clear z1 z2 z3 lD xI hgd xu Qj Kz hq hp hV hR IX xJ Eh LH;go_wp2_with fail
  generalize(wr.alloc (.cells (#[.string r.name,.slice al r.left.length cl,.slice ar r.right.length cr]) 66))=u1 at *;generalize wr.heap.size=bl at *;obtain⟨G0,-,gz⟩:=gG.cell;have g0:=G0 0;have g1:=G0 1;have g2:=G0 2;have g3:=G0 3;obtain⟨L0,-,lz⟩:=SX.cell;have l0:=L0 0;have l1:=L0 1;have l2:=L0 2;simp only[Ze,Zc,Zd]at g0 g1 g2 g3 l0 l1 l2;clear G0 L0 y1 y2 y3 yz aQ hB Hz kG;have LY:∀{w':World},aC dD u1.drew w'->Below w.heap.size w w':=λh=>aS.trans (((Zl u1.heap.size u1).drew.trans (h.toBelow.mono (by simp))).mono aS.size);refine h_ (C:=aC (dD) _) 4 [0,1,2,3,4,5,6] (by kernel_rfl) (by kernel_rfl) (aC.aJ _ _) (aC.refl _ _) ?_;iterate 3 (apply dh rfl rfl rfl;(focus intro u hc' hf';go_simp<;>rfl);intro K hK;go_simp;apply hK;clear hK K)
  refine fD rfl rfl rfl (aC.aJ _ _) (aC.refl _ _) 63 (λK hK=>?_);apply Zq;refine⟨λw' hw'=>?_,λwa bT bZ=>?_⟩;(focus go_simp;rfl);refine(HPA.out wa (LY bT)).mono ?_;rintro e w3⟨qe,qi,qo,rfl,vP,hb3⟩;refine⟨_,rfl,hb3,λhx=>?_⟩;go_simp;apply hK;clear hK K;rw[HV.out.1]at *;refine fD rfl rfl rfl (aC.aJ _ _) (hx) 62 (λK hK=>?_);apply Zq;refine⟨λw' hw'=>?_,λwb dJ dH=>?_⟩;(focus go_simp;rfl);refine(HMA.out wb _ _ _ (LY dJ) (vP.keep dH).at).mono ?_;rintro e w4⟨vm,rfl,qE,hb4⟩;refine⟨_,rfl,hb4,λhx=>?_⟩;go_simp;apply hK;clear hK K;obtain⟨ys,nS,hX,hAp⟩:=qE;obtain⟨ma,mc,rfl⟩:=hX.slice;iterate 2 (apply dh rfl rfl rfl;(focus intro u hc' hf';go_simp<;>rfl);intro K hK;go_simp;apply hK;clear hK K)
  refine dR ?_;have qM:=LY hx;have hst:Ij w w4 #[.int .i64 (W:Int),.slice ga g.ah.length gc,.slice ia g.aj.length ic,.slice oa g.ay.length oc,.slice (some ⟨b,o,none⟩) rs.length rc] (#[.string r.name,.slice al r.left.length cl,.slice ar r.right.length cr]) bl (.slice ma ys.length mc) (.slice oa' (o_ g rs k).length oc') ys 0 (o_ g rs k++o9 g r k ((o8 g q).take 0)):=by
   have h1:Below u1.heap.size u1 w4:=(Zl u1.heap.size u1).drew.trans (hx.toBelow.mono (by simp));exact⟨gG.keep h1,SX.keep h1,hX.mono (LY dJ).size,by rw[Y5,show o9 g r k []=[]from rfl,ZZ];exact(abv.next (U:=wb.heap.size) (by have:=dJ.size;simp only[Zo]at this;exact this) hX.rws).keep h1,qM⟩
  have HST:=Za hst;clear hst qM hx bT bZ dJ dH vP hb3 hX hb4 LY g0 g1 g2 g3 l0 l1 l2 gz lz gG SX abv aS;have uD:ys.length<=100:=by have h:=congrArg List.length nS;rw[ZG]at h;omega
  generalize lu:ys.length=nm at *;have QD:=Za lu;have Z_:=Za (Zb nS hAp);clear nS hAp;generalize hML:o8 g q=ML at *;have LH:=Za hML;clear lu hML;go_wp2_with fail
  go_loopw [3,26] (λov i wr=>∃j:Nat,j<=nm/\i=.int .i64 j/\Ij w wr #[.int .i64 (W:Int),.slice ga g.ah.length gc,.slice ia g.aj.length ic,.slice oa g.ay.length oc,.slice (some ⟨b,o,none⟩) rs.length rc] (#[.string r.name,.slice al r.left.length cl,.slice ar r.right.length cr]) bl (.slice ma nm mc) ov ys j (o_ g rs k++o9 g r k (ML.take j))) (λ_ i _=>nm-(intOf i).toNat)
  case atStart=>exact⟨0,Zw _,rfl,HST.out⟩
  case round =>
  clear HST;obtain⟨j,hj,rfl,hst⟩:=hrel;by_cases zL:j<nm
  ·have hjY:j<ys.length:=by have:=QD.out;omega
   obtain⟨_,_,OY,hsc,hrd⟩:=hst.hm.read;obtain⟨gm,om,UO,hjm,e0,e1,jh,sQ⟩:=hrd j hjY;simp only[Zx]at OY;obtain⟨rfl,-,rfl⟩:=OY;subst UO;have hdr:ys.drop j=ys[j]::ys.drop (j+1):=ZN hjY;have EY:∀z∈ys.drop (j+1),abA ys[j].2 z.2:=by
    have h1:=Z_.out.2.two.sublist (List.drop_sublist j ys);rw[hdr]at h1;exact(Yd.1 h1).1
   have BN:=Z_.out.2.one _ (Zp hjY);have U6:j<ML.length:=by rw[<-Z_.out.1,ZG];exact hjY
   have k_:ML.take (j+1)=ML.take j++[ys[j].1]:=by
    rw[Zv U6];congr 2;simp only[<-Z_.out.1,YN]
   have oI:ys[j].1∈ML:=by rw[<-Z_.out.1];exact ZM.2 ⟨_,Zp hjY,rfl⟩
   generalize ys[j]=yy at *;obtain⟨m,vw,ve⟩:=yy;simp only at e0 e1 jh sQ EY BN k_ oI;obtain⟨xa,xc,rfl⟩:=jh.slice;obtain⟨ya,yc,rfl⟩:=sQ.slice;have Bq:=Za (Zb k_ oI);have HSE:=Za (Zb hdr (Zb EY BN));clear hdr EY BN;have ez:=cell_lt e0;have hA:=aH wr (.cells #[.slice xa m.aB.length xc,.slice ya m.ah.length yc] 77);have aT:=aH (wr.alloc (.cells #[.slice xa m.aB.length xc,.slice ya m.ah.length yc] 77)) (.cells #[.int .i64 (k:Int),.bool false,.slice xa m.aB.length xc,.slice ya m.ah.length yc] 79);have dU:=hA.trans (aT.mono hA.size);have dS:=hst.keep dU;have Jc:=jh.keep dU;have Q_:=sQ.keep dU;have kN:=Bk.new (wr.alloc (.cells #[.slice xa m.aB.length xc,.slice ya m.ah.length yc] 77)) 79 #[.int .i64 (k:Int),.bool false,.slice xa m.aB.length xc,.slice ya m.ah.length yc];have G0:=hst.kd.cell.1;have g0:=G0 0;have g1:=G0 1;have g2:=G0 2;have g3:=G0 3;have g4:=G0 4;have gz:=hst.kd.lt;have gz1:w.heap.size<wr.heap.size+1:=by omega
   have gz2:w.heap.size<wr.heap.size+1+1:=by omega
   simp only[Ze,Zc,Zd]at g0 g1 g2 g3 g4;clear G0 k_ oI hjm hjY U6 hrd hsc hst jh sQ hA aT dU;go_wp2_with fail
   clear g0 g1 g2 g3 g4 gz gz1 gz2 e0 e1 ez;simp only[Zn]at kN;generalize((wr.alloc (.cells #[.slice xa m.aB.length xc,.slice ya m.ah.length yc] 77)).alloc (.cells #[.int .i64 (k:Int),.bool false,.slice xa m.aB.length xc,.slice ya m.ah.length yc] 79))=u6 at *;generalize wr.heap.size=bm at *;refine(Jq.out m Bq.out.2 u6 _ _ dS.bel Jc.at Q_.at).mono ?_;rintro e u7⟨kk,v1,v2,v3,v4,v5,v6,v7,n1,n2,n3,n4,n5,n6,n7,t1,t2,t3,t4,t5,t6,t7,rfl,-,dA⟩;have jS:=C_.out (ML.take j) m;rw[<-Bq.out.1]at jS;generalize uK g q p m=GG at *;have Ee:=Za jS;have hA8:=aH u7 (.cells #[.int .i64 kk,.slice v1 n1 t1,.slice v2 n2 t2,.slice v3 n3 t3,.slice v4 n4 t4,.slice v5 n5 t5,.slice v6 n6 t6,.slice v7 n7 t7] 108);have bJ:=dA.trans (hA8.mono dA.size);have qR:=dS.keep bJ;have Rf:=Jc.keep bJ;have Rh:=Q_.keep bJ;have Ai:=kN.keep bJ;have Ig:=kN.keep dA;have hlen:(o_ g rs k++o9 g r k (ML.take j)).length<=3000:=by
    have h1:=akN g rs k;have h2:=akO g r k (ML.take j);rw[Zk];rw[ZJ]at h2;omega
   have UN:=Za hlen;obtain⟨MS,Ri⟩:∃l,o_ g rs k++o9 g r k (ML.take j)=l:=⟨_,rfl⟩
   rw[Ri]at qR UN;have rY:=Za Ri;obtain⟨oa2,oc2,rfl⟩:=qR.mv.r.slice;clear jS dS Jc Q_ kN bJ hA8 hlen Ri dA;dsimp only;cases hc:aY GG with
   | false =>
    rw[hc]at Ee;have HE:=Za qR.less;have HF:=Za (show o9 g r k (ML.take (j+1))=o9 g r k (ML.take j)from Ee.out.trans (ZZ _));clear qR Rf Rh Ai Ee Ig;go_wp2;go_roundw
    case rel=>exact⟨j+1,by omega,by go_num,by rw[HF.out,rY.out];exact HE.out⟩
    case measure=>simp[intOf];omega
   | true =>
    rw[hc]at Ee;have HF:=Za (show o_ g rs k++o9 g r k (ML.take (j+1))=MS++[⟨k,m⟩]from by rw[<-rY.out,Zz];exact congrArg _ Ee.out);have m0:=Ig.cell.1 0;have m1:=Ig.cell.1 1;have m2:=Ig.cell.1 2;have m3:=Ig.cell.1 3;have mz:=Ig.lt;simp only[Ze,Zc,Zd]at m0 m1 m2 m3;have Eb:=Za qR;have HR8:=Za (Zb Rf Rh);clear qR Rf Rh Ai Ee Ig;go_wp2_with (at_builtin;refine Y7 ?_)
    refine Za ?_;clear m0 m1 m2 m3 mz;have Nr:(u7.alloc (.cells #[.int .i64 kk,.slice v1 n1 t1,.slice v2 n2 t2,.slice v3 n3 t3,.slice v4 n4 t4,.slice v5 n5 t5,.slice v6 n6 t6,.slice v7 n7 t7] 108)).heap.size=u7.heap.size+1:=by simp
    generalize(u7.alloc (.cells #[.int .i64 kk,.slice v1 n1 t1,.slice v2 n2 t2,.slice v3 n3 t3,.slice v4 n4 t4,.slice v5 n5 t5,.slice v6 n6 t6,.slice v7 n7 t7] 108))=u8 at *;have HZ8:=Za Nr;clear Nr;have LQ:=aH u8 (.cells #[.int .i64 (k:Int),.bool false,.slice xa m.aB.length xc,.slice ya m.ah.length yc] 79);have yG:=Eb.out.keep LQ;have kN:=Bk.new u8 79 #[.int .i64 (k:Int),.bool false,.slice xa m.aB.length xc,.slice ya m.ah.length yc];refine auQ rfl (.tmp 40) (.tmp 42) rfl w.heap.size (.slice oa2 MS.length oc2) MS (m,.slice xa m.aB.length xc,.slice ya m.ah.length yc) (ys.drop (j+1)) rfl (by rw[<-HSE.out.1];exact yG.mv) u8.heap.size ⟨k,m⟩ rfl (by go_simp;exact HZ8.out.symm) kN (HR8.out.1.keep LQ) (HR8.out.2.keep LQ) HSE.out.2.2 HSE.out.2.1 yG.bel.size (by have:=UN.out;omega) ?_;intro v10 w10 r1 r2 r3;have Rj:=yG.app r2 r1;rw[<-HF.out]at Rj;have HE:=Za Rj;clear LQ yG kN r1 r2 r3 Rj;go_wp2;go_roundw
    case rel=>exact⟨j+1,by omega,by go_num,HE.out⟩
    case measure=>simp[intOf];omega
  ·obtain rfl:nm=j:=by omega
   have hall:ML.take nm=ML:=ZX (by rw[<-Z_.out.1,ZG,QD.out];exact Zj _);rw[hall,<-agf.out]at hst;have HE:=Za hst;clear hall hst;go_wp2;go_roundw
   case rel=>exact⟨k+1,by omega,by go_num,HE.out.kd,HE.out.mv.less (λ_ h=>(by cases h)),HE.out.bel⟩
   case measure=>simp[intOf];omega
 ·obtain rfl:rs.length=k:=by omega
  have HE:=Za (Zb Hz hB);clear Hz hB;go_wp2;go_ret;exact⟨_,rfl,HE.out.1,HE.out.2⟩
theorem auS (g:aF) (rs:List dP) (vg gi go v:Value) (w:World) (hG:dM w vg gi go g) (aP:nJ g) (hR:qQ w v rs) (hz:∀r∈rs,uj r) (hn:rs.length<=1048576) :
  Calls Tryz.prog 35 #[.agg #[.int .i64 g.aB,vg,gi,go,v]] w (nH (xK g rs) w):=by
 obtain⟨⟨ga,gc,rfl⟩,⟨ia,ic,rfl⟩,oa,oc,rfl⟩:=hG.slices;obtain⟨ra,rc,rfl⟩:=hR.slice;have hB:=aH w (.cells #[.int .i64 g.aB,.slice ga g.ah.length gc,.slice ia g.aj.length ic,.slice oa g.ay.length oc,.slice ra rs.length rc] 69);have kG:=Bk.new w 69 #[.int .i64 g.aB,.slice ga g.ah.length gc,.slice ia g.aj.length ic,.slice oa g.ay.length oc,.slice ra rs.length rc];have HMO:=Za (λ(u:World) (hu:Below w.heap.size w u)=>aow _ _ _ g u (hG.keep hu) aP);have HAR:=Za (λ(u:World) (hu:Below w.heap.size w u)=>auv rs _ u (hR.keep hu) hz hn);clear hG hR;go_enter Tryz.func35,Tryz.ntmps35;go_wp2_with fail
 generalize(w.alloc (.cells #[.int .i64 g.aB,.slice ga g.ah.length gc,.slice ia g.aj.length ic,.slice oa g.ay.length oc,.slice ra rs.length rc] 69))=u0 at *;refine(HMO.out u0 hB).mono ?_;rintro e u1⟨rfl,hb1⟩;have aS:=hB.trans (hb1.mono hB.size);have gG:=kG.keep hb1;have g4:=gG.cell.1 4;have gz:=gG.lt;simp only[Ze,Zc,Zd]at g4;cases hm:aY g&&monoB g with
 | false =>
  have HF:=Za (show xK g rs=false from by unfold xK;rw[hm];rfl);clear hm;go_wp2;go_ret;exact⟨by rw[HF.out];rfl,aS⟩
 | true =>
  have HF:=Za (show xK g rs=Ak rs from by unfold xK;rw[hm];rfl);clear hm;generalize Ak rs=bb at *;go_wp2_with (go_at_call 61;refine(HAR.out u1 aS).mono ?_;rintro e w3⟨rfl,hb3⟩)
  go_ret;exact⟨by rw[HF.out];rfl,aS.trans (hb3.mono aS.size)⟩
theorem auT (g:aF) (rs:List dP) (vg gi go v:Value) (w:World) (hG:dM w vg gi go g) (aP:nJ g) (hR:qQ w v rs) (hz:∀r∈rs,uj r) (hn:rs.length<=1048576) :
  Calls Tryz.prog 12 #[.agg #[.int .i64 g.aB,vg,gi,go],v] w λe w'=>e=.returned (.tuple #[.bool (xK g rs&&abw g rs),.bool (xK g rs)])/\Below w.heap.size w w':=by
 obtain⟨⟨ga,gc,rfl⟩,⟨ia,ic,rfl⟩,oa,oc,rfl⟩:=hG.slices;obtain⟨ra,rc,rfl⟩:=hR.slice;have aQ:=aH w (.cells #[.int .i64 g.aB,.slice ga g.ah.length gc,.slice ia g.aj.length ic,.slice oa g.ay.length oc] 33);have aT:=aH (w.alloc (.cells #[.int .i64 g.aB,.slice ga g.ah.length gc,.slice ia g.aj.length ic,.slice oa g.ay.length oc] 33)) (.cells #[.int .i64 g.aB,.slice ga g.ah.length gc,.slice ia g.aj.length ic,.slice oa g.ay.length oc,.slice ra rs.length rc] 69);have hB:=aQ.trans (aT.mono aQ.size);have kD:=Bk.new (w.alloc (.cells #[.int .i64 g.aB,.slice ga g.ah.length gc,.slice ia g.aj.length ic,.slice oa g.ay.length oc] 33)) 69 #[.int .i64 g.aB,.slice ga g.ah.length gc,.slice ia g.aj.length ic,.slice oa g.ay.length oc,.slice ra rs.length rc];simp only[Zn]at kD;have HA:=Za (λ(u:World) (hu:Below w.heap.size w u)=>auS g rs _ _ _ _ u (hG.keep hu) aP (hR.keep hu) hz hn);have H_:=Za (λ(ha:xK g rs=true) (u:World) (hu:Below w.heap.size w u)=>(show Calls Tryz.prog 36 #[.agg #[.int .i64 g.aB,.slice ga g.ah.length gc,.slice ia g.aj.length ic,.slice oa g.ay.length oc,.slice ra rs.length rc]] u (adk (o_ g rs rs.length) u)from by
  unfold xK at ha;simp only[Zu]at ha;obtain⟨⟨h1,h2⟩,h3⟩:=ha;obtain⟨W,hW,-⟩:=(eF h1).1;obtain⟨h4,-,h5⟩:=alG hz h3;rw[hW];exact(auR g rs W hW h1 (alH h2) h4 h5 _ _ _ _ u (hG.keep hu) (hR.keep hu)).mono λ_ _ h=>h.p))
 unfold abw;generalize o_ g rs rs.length=M at *;clear hG hR aP hz aQ aT;go_enter Tryz.func12,Tryz.ntmps12;go_wp2_with fail
 generalize((w.alloc (.cells #[.int .i64 g.aB,.slice ga g.ah.length gc,.slice ia g.aj.length ic,.slice oa g.ay.length oc] 33)).alloc (.cells #[.int .i64 g.aB,.slice ga g.ah.length gc,.slice ia g.aj.length ic,.slice oa g.ay.length oc,.slice ra rs.length rc] 69))=u0 at *;refine(HA.out u0 hB).mono ?_;rintro e u1⟨rfl,hb1⟩;have aS:=hB.trans (hb1.mono hB.size);have Ol:=kD.keep hb1;have gc:=Ol.cell.1;have g0:=gc 0;have g1:=gc 1;have g2:=gc 2;have g3:=gc 3;have g4:=gc 4;have gz:=Ol.lt;simp only[Ze,Zc,Zd]at g0 g1 g2 g3 g4;cases ha:xK g rs with
 | false =>
  have LV:=Za ha;clear hb1 hB kD H_ ha;go_wp2;go_ret2
  exact⟨by rw[LV.out];rfl,aS⟩
 | true =>
  have HC:=Za (H_.out ha u1 aS);have LV:=Za ha;clear hb1 hB kD H_ gc Ol ha;go_wp2_with fail
  refine HC.out.mono ?_;rintro e u2⟨vm,rfl,hm,hb2⟩;obtain⟨ma,mc,rfl⟩:=hm.slice;have aZ:=aS.trans (hb2.mono aS.size);clear hm hb2 aS g0 g1 g2 g3 g4 gz HC;cases M with
  | nil =>
   go_wp2;go_ret2
   exact⟨by rw[LV.out];rfl,aZ⟩
  | cons x M =>
   have hne:¬((M.length:Int)+1=0):=by omega
   have Gj:(((M.length:Int)+1)==0)=false:=by rw[Yu];exact hne
   go_wp2;go_ret2
   exact⟨by rw[LV.out];rfl,aZ⟩
theorem auU (r:dP) (vl vr:Value) (w:World) (hz:uj r) (hl:dG w vl r.left) (hr:dG w vr r.right) (nl:r.left.length<=1048576) (nr:r.right.length<=1048576) :
  Calls Tryz.prog 34 #[.agg #[.string r.name,vl,vr]] w λe w'=>∃vl' U4,e=.returned (.agg #[.string r.name,vl',U4])/\jA w' w.heap.size vl' r.left/\jA w' w.heap.size U4 r.right/\Below w.heap.size w w':=by
 obtain⟨al,cl,rfl⟩:=hl.slice;obtain⟨ar,cr,rfl⟩:=hr.slice;have hb1:=aH w (.cells #[.string r.name,.slice al r.left.length cl,.slice ar r.right.length cr] 57);have hb2:=hb1.trans ((aH (w.alloc (.cells #[.string r.name,.slice al r.left.length cl,.slice ar r.right.length cr] 57)) (.cells #[.string ⟨#[]⟩,.slice none 0 0,.slice none 0 0] 66)).mono hb1.size);have hB:=hb2.trans ((aH ((w.alloc (.cells #[.string r.name,.slice al r.left.length cl,.slice ar r.right.length cr] 57)).alloc (.cells #[.string ⟨#[]⟩,.slice none 0 0,.slice none 0 0] 66)) (.cells #[.string r.name,.slice none 0 0,.slice none 0 0] 66)).mono hb2.size);have kA:=((Bk.new w 57 #[.string r.name,.slice al r.left.length cl,.slice ar r.right.length cr]).alloc (.cells #[.string ⟨#[]⟩,.slice none 0 0,.slice none 0 0] 66)).alloc (.cells #[.string r.name,.slice none 0 0,.slice none 0 0] 66);have kR:=(Bk.new (w.alloc (.cells #[.string r.name,.slice al r.left.length cl,.slice ar r.right.length cr] 57)) 66 #[.string ⟨#[]⟩,.slice none 0 0,.slice none 0 0]).alloc (.cells #[.string r.name,.slice none 0 0,.slice none 0 0] 66);have kO:=Bk.new ((w.alloc (.cells #[.string r.name,.slice al r.left.length cl,.slice ar r.right.length cr] 57)).alloc (.cells #[.string ⟨#[]⟩,.slice none 0 0,.slice none 0 0] 66)) 66 #[.string r.name,.slice none 0 0,.slice none 0 0];have hz3:(((w.alloc (.cells #[.string r.name,.slice al r.left.length cl,.slice ar r.right.length cr] 57)).alloc (.cells #[.string ⟨#[]⟩,.slice none 0 0,.slice none 0 0] 66)).alloc (.cells #[.string r.name,.slice none 0 0,.slice none 0 0] 66)).heap.size=w.heap.size+3:=by simp
 simp only[Zn]at kR kO;have H1:=Za (λ(u:World) (hu:Below w.heap.size w u)=>ahb _ r.left u (hl.keep hu) nl);have H2:=Za (λ(u:World) (hu:Below w.heap.size w u)=>ahb _ r.right u (hr.keep hu) nr);clear hl hr;go_enter Tryz.func34,Tryz.ntmps34;go_wp2_with fail
 generalize(((w.alloc (.cells #[.string r.name,.slice al r.left.length cl,.slice ar r.right.length cr] 57)).alloc (.cells #[.string ⟨#[]⟩,.slice none 0 0,.slice none 0 0] 66)).alloc (.cells #[.string r.name,.slice none 0 0,.slice none 0 0] 66))=u0 at *;refine(H1.out u0 hB).mono ?_;rintro e u1⟨v1,rfl,Uu,hb1⟩;obtain⟨p1,c1,rfl⟩:=Uu.slice;have kA1:=kA.keep hb1;have qO:=kR.keep hb1;have kO1:=kO.keep hb1;have aS:=hB.trans (hb1.mono hB.size);have a2:=kA1.cell.1 2;have az:=kA1.lt;have o1:=kO1.cell.1 1;have of:=kO1.cell.2.1 1;have oz:=kO1.lt;simp only[Ze,Zc,Zd]at a2 o1;have kA2:=kA1.other ⟨w.heap.size+1+1,1,none⟩ (.slice p1 r.left.length c1) (by simp only;omega);have oV:=qO.other ⟨w.heap.size+1+1,1,none⟩ (.slice p1 r.left.length c1) (by simp only;omega);have qP:=kO1.set 1 (.slice p1 r.left.length c1);have ho2:=Uu.xP (a:=⟨w.heap.size+1+1,1,none⟩) (by simp only;omega) (.slice p1 r.left.length c1);have auV:u0.heap.size<=(u1.setCell ⟨w.heap.size+1+1,1,none⟩ (.slice p1 r.left.length c1)).heap.size:=by rw[YB];exact hb1.size
 have aZ:Below w.heap.size w (u1.setCell ⟨w.heap.size+1+1,1,none⟩ (.slice p1 r.left.length c1)):=aS.setCell (by simp only;omega) _;clear hb1 Uu aS kA1 qO kO1 kA kR kO;go_wp2_with fail
 generalize u1.setCell ⟨w.heap.size+1+1,1,none⟩ (.slice p1 r.left.length c1)=u2 at *;clear a2 az o1 of oz;refine(H2.out u2 aZ).mono ?_;rintro e u3⟨v3,rfl,ho3,hb3⟩;obtain⟨p3,c3,rfl⟩:=ho3.slice;have hu2:u0.heap.size<=u2.heap.size:=auV;have Ry:=oV.keep hb3;have rZ:Bk u3 (w.heap.size+1+1) 66 #[.string r.name,.slice p1 r.left.length c1,.slice none 0 0]:=qP.keep hb3;have o0:=rZ.cell.1 0;have o1:=rZ.cell.1 1;have o2:=rZ.cell.1 2;have of:=rZ.cell.2.1;have oz:=rZ.lt;have r0:=Ry.cell.1 0;have r1:=Ry.cell.1 1;have r2:=Ry.cell.1 2;have rf:=Ry.cell.2.1;have rz:=Ry.lt;simp only[Ze,Zc,Zd]at o0 o1 o2 r0 r1 r2;have HL:=Za (ho2.keep hb3);have HRr:=Za ho3;have HB:=Za (aZ.trans (hb3.mono aZ.size));clear ho2 ho3 aZ hb3 kA2 oV qP rZ;go_wp2;have eU:∀(j i:Nat),i=w.heap.size+1\/i=w.heap.size+1+1->(⟨i,j,none⟩:Addr).block<u0.heap.size:=λj i h=>by simp only;omega
 have qW:∀(j i:Nat),i=w.heap.size+1\/i=w.heap.size+1+1->w.heap.size<=(⟨i,j,none⟩:Addr).block:=λj i h=>by simp only;omega
 refine Zt (v:=.agg #[.string r.name,.slice p1 r.left.length c1,.slice p3 r.right.length c3]) (by simp[results,Tryz.results34,go_sem,r0,r1,r2]) rfl ?_;refine⟨_,_,rfl,?_,?_,?_⟩
 ·exact((((HL.out.xP (eU 2 _ (.inr rfl)) _).xP (eU 0 _ (.inl rfl)) _).xP (eU 1 _ (.inl rfl)) _).xP (eU 2 _ (.inl rfl)) _).mono hB.size
 ·exact(((((HRr.out.mono hu2).xP (eU 2 _ (.inr rfl)) _).xP (eU 0 _ (.inl rfl)) _).xP (eU 1 _ (.inl rfl)) _).xP (eU 2 _ (.inl rfl)) _).mono hB.size
 ·exact(((HB.out.setCell (qW 2 _ (.inr rfl)) _).setCell (qW 0 _ (.inl rfl)) _).setCell (qW 1 _ (.inl rfl)) _).setCell (qW 2 _ (.inl rfl)) _
theorem auW {α:Type} {f:α->List Value} {w:World} {B e g n cap:Nat} {xs:List α} (hf:∀x,(f x).length=3)
  (h:w.ownsRow B e 3 (.slice (some ⟨g,0,none⟩) n cap) n (xs.flatMap f)) (i:Nat) (hi:i<xs.length) (a b c:Value) (y:α) (hy:f y=[a,b,c]) :
  (((w.setCell ⟨g,i*3,none⟩ a).setCell ⟨g,i*3+1,none⟩ b).setCell ⟨g,i*3+2,none⟩ c).ownsRow B e 3 (.slice (some ⟨g,0,none⟩) n cap) n ((xs.set i y).flatMap f):=by
 have aad:∀(l:List α) (j:Nat) (hj:j<l.length),l.flatMap f=(l.take j).flatMap f++f l[j]++(l.drop (j+1)).flatMap f:=by
  intro l j hj;conv=>lhs;rw[<-Yr j l]
  rw[ZL,Zz,ZN hj,Yt]
 have hl:((xs.take i).flatMap f).length=i*3:=by rw[flat_length hf,ZJ];congr 1;omega
 have cZ:((((xs.flatMap f).set (i*3) a).set (i*3+1) b).set (i*3+2) c)=(xs.set i y).flatMap f:=by
  rw[aad xs i hi,aad (xs.set i y) i (by simpa using hi)];have hx:=hf xs[i];simp only[XT (Zj i),Wb,hy,Vo (Xi i)];match hxx:f xs[i],hx with
  | [p,q,r],_ =>
   rw[Zz];rw[Yw _ _ (by omega),hl,XO];rw[Yw _ _ (by omega),hl,YF];rw[Yw _ _ (by omega),hl,YF];simp
 have h1:=(h.stored (i*3) a).1;have h2:=(h1.stored (i*3+1) b).1;have h3:=(h2.stored (i*3+2) c).1;rw[cZ]at h3;exact h3
structure Ik {β:Type} (e:Nat) (f:β->List Value) (z:β) (ok:World->Nat->β->Prop) (w wr:World) (g n:Nat) (ys:List β):Prop where
 row:wr.ownsRow g e 3 (.slice (some ⟨g,0,none⟩) n n) n ((ys++List.replicate (n-ys.length) z).flatMap f)
 els:∀x∈ys,ok wr (g+1) x
 lt:g<wr.heap.size
 bel:Below g w wr
section
variable {β:Type} {e:Nat} {f:β -> List Value} {z:β} {ok:World -> Nat -> β -> Prop} (hf:∀ x,(f x).length=3)
theorem Ik.start {w w1:World} {n:Nat} (hf:∀x,(f x).length=3) (hown:w1.ownsRow w.heap.size e 3 (Value.slice (some ⟨w.heap.size,0,none⟩) n n) n (madeCells (f z).toArray (n*3)).toList) (hgr:w.grownBy w1 none):Ik e f z ok w w1 w.heap.size n []:=by
 have hz:=vZ (f:=f) z n (sz:=3) (by omega) (hf z);refine⟨?_,by simp,(hown.lt w.heap.size rfl).2,(Zl _ _).grown hgr (Zj _) (by simp)⟩;simp only[YW,Y6,VA];rw[<-hz];exact hown
theorem Ik.old {w wr w2:World} {g n k:Nat} {ys:List β} (hf:∀x,(f x).length=3) (h:Ik e f z ok w wr g n ys) (hk:ys.length=k) (Ar:k<n) (hb2:Below wr.heap.size wr w2) :
  (∀j,j<3->w2.cell? ⟨g,k*3+j,none⟩=(f z)[j]?)/\(∀o,w2.frozen? ⟨g,o,none⟩=false)/\g<w2.heap.size:=by
 subst hk;have hr:=jL hb2 h.row;have hl:ys.length<(ys++List.replicate (n-ys.length) z).length:=by simp;omega
 refine⟨λj hj=>?_,λo=>hr.frozenAt o,Yc h.lt hb2.size⟩;have:=mV hf hr ys.length j hl hj;rw[this,YY (Zj _)];simp
theorem Ik.step {w wr w2:World} {g n k:Nat} {ys:List β} (hf:∀x,(f x).length=3)
  (kp:∀{w w':World} {B:Nat} {x:β},Below w.heap.size w w'->ok w B x->ok w' B x) (lw:∀{w:World} {B:Nat} {x:β} {a:Addr} {u:Value},a.block<B->ok w B x->ok (w.setCell a u) B x) (mn:∀{w:World} {B B':Nat} {x:β},B'<=B->ok w B x->ok w B' x)
  (h:Ik e f z ok w wr g n ys) (hk:ys.length=k) (Ar:k<n) (hb2:Below wr.heap.size wr w2) (x:β) (hx:ok w2 wr.heap.size x) {a b c:Value} (hy:f x=[a,b,c]) :
  Ik e f z ok w (((w2.setCell ⟨g,k*3,none⟩ a).setCell ⟨g,k*3+1,none⟩ b).setCell ⟨g,k*3+2,none⟩ c) g n (ys++[x]):=by
 subst hk;have hr:=jL hb2 h.row;have hsz:=hb2.size;have hlt:=h.lt;refine⟨?_,?_,?_,?_⟩
 ·have:=auW hf hr ys.length (by simp;omega) a b c x hy;have e:(ys++List.replicate (n-ys.length) z).set ys.length x=ys++[x]++List.replicate (n-(ys++[x]).length) z:=by
   rw[Yw _ _ (Zj _),XO];obtain⟨m,hm⟩:∃m,n-ys.length=m+1:=⟨n-ys.length-1,by omega⟩
   rw[hm,show n-(ys++[x]).length=m by simp;omega,XU,XZ,Zz];rfl
  rw[e]at this;exact this
 ·intro y hy';have hl:∀{y:β},ok w2 (g+1) y->ok (((w2.setCell ⟨g,ys.length*3,none⟩ a).setCell ⟨g,ys.length*3+1,none⟩ b).setCell ⟨g,ys.length*3+2,none⟩ c) (g+1) y:=λh1 =>
   lw (Xi _) (lw (Xi _) (lw (Xi _) h1))
  rcases Zs.1 hy' with h1|h1
  ·exact hl (kp hb2 (h.els y h1))
  ·simp only[ZS]at h1;subst h1;exact hl (mn (by omega) hx)
 ·simp;omega
 ·exact((((h.bel.trans (hb2.mono (by omega))).setCell (Zj _) _).setCell (Zj _) _).setCell (Zj _) _)
end
theorem auX:(Tryz.prog.info? 66).map (λi=>(i.zero,i.size,i.bytes))=some (some (.agg #[.string ⟨#[]⟩,.slice none 0 0,.slice none 0 0]),3,64):=by kernel_rfl
def adF (x:dP×Value×Value):List Value:=[.string x.1.name,x.2.1,x.2.2]
theorem adG (x:dP×Value×Value):(adF x).length=3:=rfl
def rlz:dP×Value×Value:=(⟨⟨#[]⟩,[],[]⟩,.slice none 0 0,.slice none 0 0)
def agL (w:World) (B:Nat) (x:dP×Value×Value):Prop:=jA w B x.2.1 x.1.left/\jA w B x.2.2 x.1.right
theorem auY (v:Value) (rs:List dP) (w:World) (hv:qQ w v rs) (hn:rs.length<=1048576) (hz:∀r∈rs,uj r) (hs:∀r∈rs,r.left.length<=1048576/\r.right.length<=1048576) :
  Calls Tryz.prog 11 #[v] w λe w'=>∃v',e=.returned v'/\qQ w' v' rs/\Below w.heap.size w w':=by
 obtain⟨a,cap,rfl,hc,hat⟩:=hv;obtain⟨i0,hi,hz0,hz1,hz2⟩:=Yg auX;go_enter Tryz.func11,Tryz.ntmps11;go_wp2_with (at_make;refine Yo _ rfl _ _ _ rfl w.heap.size 66 i0 _ 3 Tryz.underlying35 hi hz0 hz1 _ _ _ _ rs.length rfl rfl rfl rfl (by rw[hz2];omega) (by unfold maxLen;omega) (Zj _) ?_;intro w1 hown hgr)
 have hst:Ik 66 adF rlz agL w w1 w.heap.size rs.length []:=Ik.start adG hown hgr;clear hown hgr hi hz0 hz1 hz2;go_loopw [4] (λi wr=>∃(k:Nat) (ys:List (dP×Value×Value)),k<=rs.length/\i=.int .i64 k/\ys.map Prod.fst=rs.take k/\Ik 66 adF rlz agL w wr w.heap.size rs.length ys) (λi _=>rs.length-(intOf i).toNat)
 case atStart=>exact⟨0,[],Zw _,rfl,rfl,hst⟩
 case round =>
  clear hst;obtain⟨k,ys,hk,rfl,FW,hst⟩:=hrel;have uD:ys.length=k:=by have:=congrArg List.length FW;simpa[YR hk]using this
  by_cases hlt:k<rs.length
  ·obtain⟨b,o,rfl,_,dI⟩:=hat k hlt;have abX:=hst.lt;obtain⟨c0,vl,vr,c1,c2,yN,hgr⟩:=dI.keep (hst.bel.mono (Zj _));have aP:=hs rs[k] (Zp _);have hzk:=hz rs[k] (Zp _);have hLt:rs.take (k+1)=rs.take k++[rs[k]]:=Zv hlt;have HY:=Za (Zb FW (Zb uD hLt));obtain⟨al,cl,rfl⟩:=yN.slice;obtain⟨ar,cr,rfl⟩:=hgr.slice;clear hat dI hs FW uD hLt hz;go_wp2_with (go_at_call 34;go_loud (refine(auU rs[k] _ _ _ hzk yN hgr aP.1 aP.2).mono ?_;rintro r w2⟨u0,u1,rfl,hr1,hr2,hb2⟩;obtain⟨d,hf2,SA⟩:=hst.old adG HY.out.2.1 hlt hb2;have d0:w2.cell? ⟨w.heap.size,k*3,none⟩=some (.string ⟨#[]⟩):=d 0 (by omega);have d1:w2.cell? ⟨w.heap.size,k*3+1,none⟩=some (.slice none 0 0):=d 1 (by omega);have d2:w2.cell? ⟨w.heap.size,k*3+2,none⟩=some (.slice none 0 0):=d 2 (by omega);clear d;obtain⟨b0,s0,rfl⟩:=hr1.slice;obtain⟨b1,s1,rfl⟩:=hr2.slice))
   have dK:=Ik.step (ok:=agL) adG (λhb h=>⟨h.1.keep hb,h.2.keep hb⟩) (λha h=>⟨h.1.xP ha _,h.2.xP ha _⟩) (λhB h=>⟨h.1.mono hB,h.2.mono hB⟩) hst HY.out.2.1 hlt hb2 (rs[k],.slice b0 rs[k].left.length s0,.slice b1 rs[k].right.length s1) ⟨hr1,hr2⟩ rfl;go_roundw
   case rel=>exact⟨k+1,_,by omega,by go_num,by rw[ZK,HY.out.1,HY.out.2.2];rfl,dK⟩
   case measure=>simp[intOf];omega
  ·obtain rfl:k=rs.length:=by omega
   go_wp2;go_ret;rw[ZY]at FW;refine⟨_,rfl,?_,hst.bel⟩;have hrow:=hst.row;rw[uD,XO,List.replicate_zero,ZZ]at hrow;refine Me hrow _ λi b o hi hc=>⟨hi,?_⟩
   have hiy:i<ys.length:=by omega
   have g:∀j,j<3->wr.cell? ⟨b,o+j,none⟩=(adF ys[i])[j]?:=λj hj=>(hc j hj).trans (flat_get adG ys i j hiy hj);have he:rs[i]=ys[i].1:=by simp only[<-FW,YN]
   have Cb:=hst.els ys[i] (Zp hiy);rw[he];exact⟨g 0 (by omega),_,_,g 1 (by omega),g 2 (by omega),Cb.1.at,Cb.2.at⟩
end Go.Proofs.YtkhpobekconobaaGreat
