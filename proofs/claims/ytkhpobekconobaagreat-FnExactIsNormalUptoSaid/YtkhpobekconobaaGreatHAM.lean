import Derived.Test.YtkhpobekconobaaGreatHAL
import Derived.Lib.ConvBytes
import Derived.Laws.CopyRow
set_option linter.all false
set_option maxRecDepth 100000
set_option maxHeartbeats 0
namespace Go.Proofs.YtkhpobekconobaaGreat
open Go.RowKit
theorem aie {α β:Type} (f:α->List β) (l:List α) (k:Nat) (h:k<l.length):((l.take k).flatMap f).length+(f l[k]).length<=(l.flatMap f).length:=by
 have h1:=congrArg List.length (aer f l k h);have h2:l.flatMap f=(l.take (k+1)).flatMap f++(l.drop (k+1)).flatMap f:=by rw[<-ZL,Yr]
 rw[h2,Zk];rw[Zk]at h1;omega
theorem acv (a:List Int) (x:Int) (h:a.length<=2000000):IntKind.i64.wrap ((a.count x:Int)+1)=(a.count x:Int)+1:=by
 have:=cnt_le a x;exact Z8 _ (by omega)
theorem aex (g:aF) (be bi bo:Option Addr) (de di dO:Nat) (w:World) (hR:dM w (.slice be g.ah.length de) (.slice bi g.aj.length di) (.slice bo g.ay.length dO) g) (aP:nJ g)
  (hn:0<=g.aB/\g.aB<=1000) (bV:∀x∈g.places,0<=x/\x<g.aB) (iH:g.iM.length<=1000000) (hl2:g.iZ.length<=1000000) :
  Calls Tryz.prog 80 #[.agg #[.int .i64 g.aB,.slice be g.ah.length de,.slice bi g.aj.length di,.slice bo g.ay.length dO]] w (aaz g w):=by
 unfold aaz;obtain⟨n,hw⟩:∃n:Nat,g.aB=n:=⟨g.aB.toNat,by omega⟩
 have ht:g.aB.toNat=n:=by omega
 rw[ht];rw[hw]at hn bV ⊢;have aeb:n<=1000:=by omega
 obtain⟨zk,rH,AY⟩:=aaA (g:=g);have HI:=Za (λx hx=>bV x (zk x hx));have HO:=Za (λx hx=>bV x (rH x hx));have HEI:=Za (λk hk x hx=>bV x ((AY k hk).1 x hx));have HEO:=Za (λk hk x hx=>bV x ((AY k hk).2 x hx));have HL:=Za (Zb iH hl2);obtain⟨OR,Tz⟩:∃l,g.iM=l:=⟨_,rfl⟩
 obtain⟨DE,hDE⟩:∃l,g.iZ=l:=⟨_,rfl⟩
 have HOR:=Za (Zb Tz hDE);rw[Tz,hDE];clear hw ht bV zk rH AY hn iH hl2 Tz hDE;obtain⟨i0,hi,hz0,hz1,hz2⟩:=Yg yV;have hA:=aH w (.cells #[.int .i64 n,.slice be g.ah.length de,.slice bi g.aj.length di,.slice bo g.ay.length dO] 33);have kG:=Bk.new w 33 #[.int .i64 n,.slice be g.ah.length de,.slice bi g.aj.length di,.slice bo g.ay.length dO];go_enter Tryz.func80,Tryz.ntmps80;have hzu:w.heap.size<(w.alloc (.cells #[.int .i64 n,.slice be g.ah.length de,.slice bi g.aj.length di,.slice bo g.ay.length dO] 33)).heap.size:=by simp
 go_wp2_with (first
  |(have hq:=hown1;at_make;refine Yo _ rfl _ _ _ rfl w.heap.size 3 i0 _ 1 Tryz.underlying23 hi hz0 hz1 _ _ _ _ n rfl rfl rfl rfl (by rw[hz2];omega) (by unfold maxLen;omega) (by omega) ?_;intro x2 hown2 aif;have acw:Below x1.heap.size x1 x2:=(Zl _ _).grown aif (Zj _) (by simp);replace kG:=kG.keep acw;clear iG zG;obtain⟨iG,-,zG⟩:=kG.cell)
  |(at_make;generalize(w.alloc (.cells #[.int .i64 n,.slice be g.ah.length de,.slice bi g.aj.length di,.slice bo g.ay.length dO] 33))=u0 at *;refine Yo _ rfl _ _ _ rfl w.heap.size 3 i0 _ 1 Tryz.underlying23 hi hz0 hz1 _ _ _ _ n rfl rfl rfl rfl (by rw[hz2];omega) (by unfold maxLen;omega) (by omega) ?_;intro x1 hown1 aii;have acz:Below u0.heap.size u0 x1:=(Zl _ _).grown aii (Zj _) (by simp);replace kG:=kG.keep acz;obtain⟨iG,-,zG⟩:=kG.cell))
 have adW:u0.heap.size<x1.heap.size:=(hown1.lt u0.heap.size rfl).2;have zL:x1.heap.size<x2.heap.size:=(hown2.lt x1.heap.size rfl).2;clear iG zG;have aZ:Below w.heap.size w x2:=hA.trans ((acz.trans (acw.mono acz.size)).mono hA.size);have Gg:rU w x2 u0.heap.size x1.heap.size n [] []:=rU.start aZ ⟨by omega,by omega⟩ (by omega) (jL acw hown1) hown2;have hFT:¬u0.heap.size=x1.heap.size:=by omega
 have hGF:¬w.heap.size=u0.heap.size:=by omega
 have hGT:¬w.heap.size=x1.heap.size:=by omega
 clear aif aii hown1 hown2 acz acw aZ hA adW zL hzu hi hz0 hz1 hz2;generalize u0.heap.size=F at *;generalize x1.heap.size=T at *;have apB:=hR.inn;have apC:=hR.out;have apD:=hR.ed;obtain⟨pi,cpi,qH,hci,TA⟩:=apB;simp only[Zx]at qH;obtain⟨rfl,-,rfl⟩:=qH;have qI:=aP.inn;go_loopw [25] (λi wr=>∃k:Nat,k<=g.aj.length/\i=.int .i64 k/\rU w wr F T n (g.aj.take k) []/\Bk wr w.heap.size 33 #[.int .i64 n,.slice be g.ah.length de,.slice bi g.aj.length di,.slice bo g.ay.length dO]) (λi _=>g.aj.length-(intOf i).toNat)
 case atStart=>exact⟨0,Zw _,rfl,Gg,kG⟩
 case round =>
  clear Gg kG;obtain⟨k,hk,rfl,hst,kG⟩:=hrel;by_cases hlt:k<g.aj.length
  ·obtain⟨b,o,rfl,_,c0⟩:=TA k hlt;rw[Z2]at c0;replace c0:=aK hst.bel c0;have bz:=cell_lt c0;have hr:=HI.out _ (Zp hlt);have hT:=take_one g.aj k hlt;obtain⟨z,hz⟩:∃z,g.aj[k]=z:=⟨_,rfl⟩
   rw[hz]at c0 hr hT;obtain⟨m,rfl⟩:∃m:Nat,z=m:=⟨z.toNat,by omega⟩
   have rO:m<n:=by omega
   have HT:=Za hT;obtain⟨s0,f0⟩:=hst.cf m rO;have zF:=cell_lt s0;have dK:=hst.from m rO;have qg:=kG.other ⟨F,m,none⟩ (.int .i64 (((g.aj.take k).count (m:Int):Int)+1)) hGF;have w1:=acv (g.aj.take k) m (by rw[ZJ];omega);clear TA hz hT hr kG hst;go_wp2;go_roundw
   case rel=>exact⟨k+1,by omega,by go_num,by rw[HT.out];exact dK,qg⟩
   case measure=>simp[intOf];omega
  ·obtain rfl:k=g.aj.length:=by omega
   rw[ZY]at hst;clear TA;obtain⟨iG,-,zG⟩:=kG.cell;go_wp2_with fail
   clear iG zG;obtain⟨po,cpo,qJ,hco,TB⟩:=apC;simp only[Zx]at qJ;obtain⟨rfl,-,rfl⟩:=qJ;have wS:=aP.out;go_loopw [39] (λi wr=>∃k:Nat,k<=g.ay.length/\i=.int .i64 k/\rU w wr F T n g.aj (g.ay.take k)/\Bk wr w.heap.size 33 #[.int .i64 n,.slice be g.ah.length de,.slice bi g.aj.length di,.slice bo g.ay.length dO]) (λi _=>g.ay.length-(intOf i).toNat)
   case atStart=>exact⟨0,Zw _,rfl,hst,kG⟩
   case round =>
    clear hst kG;obtain⟨k,hk,rfl,hst,kG⟩:=hrel;by_cases hlt:k<g.ay.length
    ·obtain⟨b,o,rfl,_,c0⟩:=TB k hlt;rw[Z2]at c0;replace c0:=aK hst.bel c0;have bz:=cell_lt c0;have hr:=HO.out _ (Zp hlt);have hT:=take_one g.ay k hlt;obtain⟨z,hz⟩:∃z,g.ay[k]=z:=⟨_,rfl⟩
     rw[hz]at c0 hr hT;obtain⟨m,rfl⟩:∃m:Nat,z=m:=⟨z.toNat,by omega⟩
     have rO:m<n:=by omega
     have HT:=Za hT;obtain⟨s0,f0⟩:=hst.ct m rO;have zF:=cell_lt s0;have dK:=hst.to m rO;have qg:=kG.other ⟨T,m,none⟩ (.int .i64 (((g.ay.take k).count (m:Int):Int)+1)) hGT;have w1:=acv (g.ay.take k) m (by rw[ZJ];omega);clear TB hz hT hr kG hst;go_wp2;go_roundw
     case rel=>exact⟨k+1,by omega,by go_num,by rw[HT.out];exact dK,qg⟩
     case measure=>simp[intOf];omega
    ·obtain rfl:k=g.ay.length:=by omega
     rw[ZY]at hst;clear TB;obtain⟨iG,-,zG⟩:=kG.cell;go_wp2_with fail
     clear iG zG kG;obtain⟨pe,JO,rV,hce,yj⟩:=apD;simp only[Zx]at rV;obtain⟨rfl,-,rfl⟩:=rV;have hle:=aP.ed;go_loopw [53] (λi wr=>∃k:Nat,k<=g.ah.length/\i=.int .i64 k/\rU w wr F T n (g.aj++(g.ah.take k).flatMap aO.ay) (g.ay++(g.ah.take k).flatMap aO.aj)) (λi _=>g.ah.length-(intOf i).toNat)
     case atStart=>exact⟨0,Zw _,rfl,by simpa using hst⟩
     case round =>
      clear hst;obtain⟨k,hk,rfl,hst⟩:=hrel;by_cases hlt:k<g.ah.length
      ·obtain⟨b,o,rfl,_,dI⟩:=yj k hlt;obtain⟨c0,c1,x1,x2,c2,c3,hi,ho⟩:=dI;replace c0:=aK hst.bel c0;replace c1:=aK hst.bel c1;replace c2:=aK hst.bel c2;replace c3:=aK hst.bel c3;have hro:=HEO.out k hlt;have hri:=HEI.out k hlt;have aij:=aie aO.ay g.ah k hlt;have aik:=aie aO.aj g.ah k hlt;have hto:=aer aO.ay g.ah k hlt;have A8:=aer aO.aj g.ah k hlt;have dL:=aP.xO _ (Zp hlt);have TD:=HL.out;unfold aF.iM aF.iZ at TD;rw[Zk,Zk]at TD;obtain⟨e,he⟩:∃e,g.ah[k]=e:=⟨_,rfl⟩
       rw[he]at c0 c1 hi ho hro hri aij aik hto A8 dL;obtain⟨a1,q1,rfl⟩:=hi.slice;obtain⟨a2,q2,rfl⟩:=ho.slice;have bz:=cell_lt c0;obtain⟨A,hAA⟩:∃A,g.aj++(g.ah.take k).flatMap aO.ay=A:=⟨_,rfl⟩
       obtain⟨B,hBB⟩:∃B,g.ay++(g.ah.take k).flatMap aO.aj=B:=⟨_,rfl⟩
       have hAn:A.length+e.ay.length<=1000000:=by rw[<-hAA,Zk];omega
       have hBn:B.length+e.aj.length<=1000000:=by rw[<-hBB,Zk];omega
       have HA2:=Za (show g.aj++(g.ah.take (k+1)).flatMap aO.ay=A++e.ay by rw[hto,<-hAA,Zz]);have HB2:=Za (show g.ay++(g.ah.take (k+1)).flatMap aO.aj=B++e.aj by rw[A8,<-hBB,Zz]);rw[hAA,hBB]at hst;have Nu:=Za hro;have HRI:=Za hri;have AL:=Za dL;clear yj hAA hBB hto A8 aij aik TD he hro hri dL;have oP:=aH wr (.cells #[.int .i64 e.kind,.int .i64 e.value,.slice a1 e.aj.length q1,.slice a2 e.ay.length q2] 102);have kE:=Bk.new wr 102 #[.int .i64 e.kind,.int .i64 e.value,.slice a1 e.aj.length q1,.slice a2 e.ay.length q2];have avN:F<wr.heap.size:=(Zh hst.rf F rfl).2;have avO:T<wr.heap.size:=(Zh hst.rt T rfl).2;have hEF:¬wr.heap.size=F:=by omega
       have hET:¬wr.heap.size=T:=by omega
       replace hst:=hst.keep oP;go_wp2_with fail
       generalize(wr.alloc (.cells #[.int .i64 e.kind,.int .i64 e.value,.slice a1 e.aj.length q1,.slice a2 e.ay.length q2] 102))=u1 at *;generalize wr.heap.size=E at *;clear c0 c1 c2 c3 bz oP;obtain⟨pq,cpq,JH,hcq,Py⟩:=ho;simp only[Zx]at JH;obtain⟨rfl,-,rfl⟩:=JH;go_loopw [60] (λi wq=>∃j:Nat,j<=e.ay.length/\i=.int .i64 j/\rU w wq F T n (A++e.ay.take j) B/\Bk wq E 102 #[.int .i64 e.kind,.int .i64 e.value,.slice a1 e.aj.length q1,.slice a2 e.ay.length q2]) (λi _=>e.ay.length-(intOf i).toNat)
       case atStart=>exact⟨0,Zw _,rfl,by simpa using hst,kE⟩
       case round =>
        clear hst kE;obtain⟨j,hj,rfl,hst,kE⟩:=hrel;by_cases uY:j<e.ay.length
        ·obtain⟨b,o,rfl,_,c0⟩:=Py j uY;rw[Z2]at c0;replace c0:=aK hst.bel c0;have bz:=cell_lt c0;have hr:=Nu.out _ (Zp uY);have hT:=take_one e.ay j uY;obtain⟨z,hz⟩:∃z,e.ay[j]=z:=⟨_,rfl⟩
         rw[hz]at c0 hr hT;obtain⟨m,rfl⟩:∃m:Nat,z=m:=⟨z.toNat,by omega⟩
         have rO:m<n:=by omega
         have HT:=Za (show A++e.ay.take (j+1)=(A++e.ay.take j)++[(m:Int)]by rw[hT,Zz]);obtain⟨s0,f0⟩:=hst.cf m rO;have zF:=cell_lt s0;have dK:=hst.from m rO;have J7:=kE.other ⟨F,m,none⟩ (.int .i64 (((A++e.ay.take j).count (m:Int):Int)+1)) hEF;have w1:=acv (A++e.ay.take j) m (by rw[Zk,ZJ];omega);generalize(A++e.ay.take j).count (m:Int)=cn at s0 dK J7 w1;clear Py hz hT hr kE hst;go_wp2;go_roundw
         case rel=>exact⟨j+1,by omega,by go_num,by rw[HT.out];exact dK,J7⟩
         case measure=>simp[intOf];omega
        ·obtain rfl:j=e.ay.length:=by omega
         rw[ZY]at hst;clear Py;obtain⟨iE,-,zE⟩:=kE.cell;go_wp2_with fail
         clear iE zE kE;obtain⟨pq,cpq,JH,hcq,Py⟩:=hi;simp only[Zx]at JH;obtain⟨rfl,-,rfl⟩:=JH;go_loopw [74] (λi wq=>∃j:Nat,j<=e.aj.length/\i=.int .i64 j/\rU w wq F T n (A++e.ay) (B++e.aj.take j)) (λi _=>e.aj.length-(intOf i).toNat)
         case atStart=>exact⟨0,Zw _,rfl,by simpa using hst⟩
         case round =>
          clear hst;obtain⟨j,hj,rfl,hst⟩:=hrel;by_cases uY:j<e.aj.length
          ·obtain⟨b,o,rfl,_,c0⟩:=Py j uY;rw[Z2]at c0;replace c0:=aK hst.bel c0;have bz:=cell_lt c0;have hr:=HRI.out _ (Zp uY);have hT:=take_one e.aj j uY;obtain⟨z,hz⟩:∃z,e.aj[j]=z:=⟨_,rfl⟩
           rw[hz]at c0 hr hT;obtain⟨m,rfl⟩:∃m:Nat,z=m:=⟨z.toNat,by omega⟩
           have rO:m<n:=by omega
           have HT:=Za (show B++e.aj.take (j+1)=(B++e.aj.take j)++[(m:Int)]by rw[hT,Zz]);obtain⟨s0,f0⟩:=hst.ct m rO;have zF:=cell_lt s0;have dK:=hst.to m rO;have w1:=acv (B++e.aj.take j) m (by rw[Zk,ZJ];omega);generalize(B++e.aj.take j).count (m:Int)=cn at s0 dK w1;clear Py hz hT hr hst;go_wp2;go_roundw
           case rel=>exact⟨j+1,by omega,by go_num,by rw[HT.out];exact dK⟩
           case measure=>simp[intOf];omega
          ·obtain rfl:j=e.aj.length:=by omega
           rw[ZY]at hst;clear Py;go_wp2;go_roundw
           case rel=>exact⟨k+1,by omega,by go_num,by rw[HA2.out,HB2.out];exact hst⟩
           case measure=>simp[intOf];omega
      ·obtain rfl:k=g.ah.length:=by omega
       rw[ZY]at hst;clear yj;go_wp2;go_ret2
       obtain⟨j1,j2⟩:=hst.ints;refine⟨_,_,rfl,?_,?_,hst.bel⟩
       ·rw[<-HOR.out.1];exact j1
       ·rw[<-HOR.out.2];exact j2
theorem Tf.ok {g:aF} (h:Tf g):nJ g:=⟨by have:=h.ed;omega,λe he=>⟨by have:=(h.xO e he).1;omega,by have:=(h.xO e he).2;omega⟩,by have:=h.inn;omega,by have:=h.out;omega⟩
def nI (l:List Nat):List Int:=l.map λn:Nat=>(n:Int)
theorem tN (l:List Nat):(nI l).length=l.length:=by simp[nI]
theorem Nv (l:List Nat) (k:Nat) (h:k<(nI l).length):(nI l)[k]=((l.getD k 0:Nat):Int):=by
 rw[tN]at h;simp[nI,Zg,h]
theorem ail (n:Nat):dW n=nI (wU n):=rfl
theorem take_same {α:Type} (xs ys:List α) (k:Nat) (hx:k<xs.length) (hy:k<ys.length) (h:xs[k]=ys[k]):xs.take k++ys.drop k=xs.take (k+1)++ys.drop (k+1):=by
 rw[Zv hx,ZN hy,h,Zz];rfl
def yw (W:Nat) (ps:List (Nat×Nat)) (i:Nat):List Nat:=A_ (wU W) (ps.take i)
theorem ain (W:Nat) (ps:List (Nat×Nat)) (i:Nat) (h:i<ps.length):yw W ps (i+1)=joinL (yw W ps i) ps[i].1 ps[i].2:=by
 unfold yw;rw[Zv h,avP]
theorem apE (W:Nat) (ps:List (Nat×Nat)) (i:Nat) (hp:∀p∈ps,p.1<W/\p.2<W):apF (yw W ps i)/\(yw W ps i).length=W :=
 aio W _ λp h=>hp p (Y8 h)
def Gh (g:aF) (cl:List Nat) (r:Nat):Bool:=g.places.any λz=>cl.getD z.toNat 0==r
def Nw (cl:List Nat) (met:Nat->Bool) (k:Nat):List Int:=((List.range k).filter met).map λw=>((cl.getD w 0:Nat):Int)
theorem apG (cl:List Nat) (met:Nat->Bool) (k:Nat):Nw cl met (k+1)=Nw cl met k++if met k then[((cl.getD k 0:Nat):Int)]else[]:=by
 unfold Nw;rw[YV,X3,ZK,Wg,Wn];cases met k<;>rfl
def IK (g:aF) (w:Nat):Bool:=g.places.contains (w:Int)
theorem apH (g:aF) (w:Nat):(0:Int)<(g.iM.count (w:Int):Int)+(g.iZ.count (w:Int):Int)↔IK g w=true:=by
 have h:=aen g.iM g.iZ (w:Int);have h2:=mem_places g (w:Int);unfold IK;rw[Yh]at h ⊢;rw[<-h2];constructor
 ·intro h1;by_cases h3:(w:Int)∈g.iM++g.iZ
  ·exact h3
  ·have:=h.2 h3;omega
 ·intro h1;have:¬((g.iM.count (w:Int):Int)+(g.iZ.count (w:Int):Int)=0):=λe=>h.1 e h1;omega
theorem apI (g:aF) (cl:List Nat) (W:Nat) (bV:∀k∈g.places,0<=k/\k<(W:Int)) (r:Nat):(Nw cl (IK g) W).contains (r:Int)=Gh g cl r:=by
 rw[YK];unfold Nw Gh;rw[Yh,ZM,XA];constructor
 ·rintro⟨w,hw,e⟩;have hw2:=(YJ.1 hw).2;unfold IK at hw2;refine⟨(w:Int),Yh.1 hw2,?_⟩;rw[Zr,XY];omega
 ·rintro⟨z,hz,e⟩;obtain⟨h1,h2⟩:=bV z hz;refine⟨z.toNat,YJ.2 ⟨ZW.2 (by omega),?_⟩,?_⟩
  ·unfold IK;rw[Vp h1];exact Yh.2 hz
  ·rw[XY]at e;omega
def zM (cl:List Nat) (us:Nat->Bool) (W:Nat):List Int:=(List.range W).map (num1 cl us)
def oU (cl:List Nat) (us:Nat->Bool) (W:Nat):List Int:=(List.range W).map (Ny cl us)
theorem Pz (cl:List Nat) (us:Nat->Bool) (W:Nat):(zM cl us W).length=W:=by simp[zM]
theorem uI (cl:List Nat) (us:Nat->Bool) (W:Nat):(oU cl us W).length=W:=by simp[oU]
theorem aey (cl:List Nat) (us:Nat->Bool) (W k:Nat) (h:k<(zM cl us W).length):(zM cl us W)[k]=num1 cl us k:=by simp[zM]
theorem aaD (cl:List Nat) (us:Nat->Bool) (W k:Nat) (h:k<(oU cl us W).length):(oU cl us W)[k]=Ny cl us k:=by simp[oU]
def kY (g:aF) (W:Nat) (ps:List (Nat×Nat)):List Int:=oU (A_ (wU W) ps) (Gh g (A_ (wU W) ps)) W
def glN (g:aF) (W:Nat) (ps:List (Nat×Nat)):Nat:=CW (A_ (wU W) ps) (Gh g (A_ (wU W) ps)) W
def tV (g:aF) (W:Nat) (ps:List (Nat×Nat)):aF:=mZ g (glN g W ps) (kY g W ps)
theorem apJ (cl:List Nat) (us:Nat->Bool) (W t Z:Nat) (hZ:Z<=t) (ht:t<W) (h:Z<((oU cl us W).take t++(zM cl us W).drop t).length) :
  ((oU cl us W).take t++(zM cl us W).drop t)[Z]=if Z<t then Ny cl us Z else num1 cl us Z:=by
 by_cases hlt:Z<t
 ·rw[ZE hlt,Xx (by rw[ZJ,uI];omega),Ww,aaD]
 ·obtain rfl:Z=t:=by omega
  rw[ZH hlt,YY (by rw[ZJ,uI];omega),List.getElem_drop,aey];congr 1;rw[ZJ,uI];omega
theorem apK (x y:Nat):(if(y:Int)<(x:Int)then(x:Int)else(y:Int))=((Nat.max x y:Nat):Int):=by
 split
 ·rw[show Nat.max x y=x from Wl (by omega)]
 ·rw[show Nat.max x y=y from We (by omega)]
def HgV:Prop:=∀(ve vi vo:Value) (g:aF) (u:World),dM u ve vi vo g->nJ g->Calls Tryz.prog 56 #[.agg #[.int .i64 g.aB,ve,vi,vo]] u (nH (aY g) u)
theorem acA (v:Value) (zs:List Int) (left:Int) (w:World) (hv:aU w v zs) (hn:zs.length<=1048576) (h0:0<=left) (h1:left<=1048576) :
  Calls Tryz.prog 28 #[v,.int .i64 left] w (J9 left w):=by
 obtain⟨a,cap,rfl,hc,hat⟩:=hv;go_enter Tryz.func28,Tryz.ntmps28;go_wp2;all_goals
  go_ret;exact⟨_,rfl,by omega,by omega,Zl _ _⟩
theorem apL (k v:Int) (vi vo:Value) (e:aO) (left:Int) (w:World) (hi:aU w vi e.aj) (ho:aU w vo e.ay) (aP:MI e) (h0:0<=left) (h1:left<=1048576) :
  Calls Tryz.prog 50 #[.agg #[.int .i64 k,.int .i64 v,vi,vo],.int .i64 left] w (J9 left w):=by
 obtain⟨a,cap,rfl⟩:=hi.slice;obtain⟨a',cap',rfl⟩:=ho.slice;obtain⟨n1,n2⟩:=aP;have hA:=aH w (.cells #[.int .i64 k,.int .i64 v,.slice a e.aj.length cap,.slice a' e.ay.length cap'] 91);go_enter Tryz.func50,Tryz.ntmps50;go_wp2_with fail
 refine(acA _ e.aj _ _ (hi.keep hA) n1 (by omega) (by omega)).mono ?_;rintro r w1⟨r1,rfl,q0,q1,hb1⟩;have aS:=hA.trans (hb1.mono (by simp));have c0:=hb1.cell (p:=⟨w.heap.size,2,none⟩) (by simp);have c1:=hb1.cell (p:=⟨w.heap.size,3,none⟩) (by simp);simp[go_sem]at c0 c1;have z1:=cell_lt c0;by_cases Bd:r1<0
 ·go_wp2;go_ret;exact⟨_,rfl,by omega,by omega,aS⟩
 ·go_wp2_with fail
  refine(acA _ e.ay _ _ (ho.keep aS) n2 (by omega) (by omega)).mono ?_;rintro r w2⟨r2,rfl,q2,q3,hb2⟩;have aZ:=aS.trans (hb2.mono aS.size);go_wp2;all_goals
   go_ret;exact⟨_,rfl,by omega,by omega,aZ⟩
theorem apM (v:Value) (L:List aO) (left:Int) (w:World) (hv:oM w v L) (hs:∀d∈L,MI d) (hn:L.length<=1048576) (h0:0<=left) (h1:left<=1048576) :
  Calls Tryz.prog 27 #[v,.int .i64 left] w (J9 left w):=by
 obtain⟨a,cap,rfl,hc,hat⟩:=hv;go_enter Tryz.func27,Tryz.ntmps27;go_wp2
 ·go_ret;exact⟨_,rfl,by omega,by omega,Zl _ _⟩
 ·go_loopw [1,5] (λl i wr=>∃(k:Nat) (r:Int),k<=L.length/\i=.int .i64 k/\l=.int .i64 r/\0<=r/\r<=left/\Below w.heap.size w wr) (λ_ i _=>L.length-(intOf i).toNat)
  case atStart=>exact⟨0,_,Zw _,rfl,rfl,by omega,by omega,Zl _ _⟩
  case round =>
   obtain⟨k,r,hk,rfl,rfl,sJ,hr1,aI⟩:=hrel;by_cases hlt:k<L.length
   ·obtain⟨b,o,rfl,_,dI⟩:=hat k hlt;obtain⟨c0,c1,vi,vo,c2,c3,hvi,yX⟩:=dI.keep aI;obtain⟨va,vc,rfl⟩:=hvi.slice;obtain⟨va',vc',rfl⟩:=yX.slice;have hsz:=hs L[k] (Zp _);clear hat dI hs;go_wp2_with (go_at_call 50;refine(apL _ _ _ _ L[k] _ _ hvi yX hsz (by omega) (by omega)).mono ?_;rintro e w'⟨r',rfl,q0,q1,hb2⟩)
    ·go_ret;exact⟨_,rfl,by omega,by omega,aI.trans (hb2.mono (by have:=aI.size;omega))⟩
    ·go_roundw
     case rel=>exact⟨k+1,_,by omega,by go_num,rfl,by omega,by omega,aI.trans (hb2.mono (by have:=aI.size;omega))⟩
     case measure=>simp[intOf];omega
   ·go_wp2;go_ret;exact⟨_,rfl,by omega,by omega,aI⟩
theorem apN (n:Int) (ve vi vo:Value) (g:aF) (left:Int) (w:World) (hg:dM w ve vi vo g) (aP:nJ g) (h0:0<=left) (h1:left<=1048576) :
  Calls Tryz.prog 7 #[.agg #[.int .i64 n,ve,vi,vo],.int .i64 left] w (J9 left w):=by
 obtain⟨⟨ae,ce,rfl⟩,⟨ai,ci,rfl⟩,ao,co,rfl⟩:=hg.slices;have hA:=aH w (.cells #[.int .i64 n,.slice ae g.ah.length ce,.slice ai g.aj.length ci,.slice ao g.ay.length co] 25);go_enter Tryz.func7,Tryz.ntmps7;go_wp2_with fail
 refine(apM _ g.ah _ _ (hg.ed.keep hA) aP.xO aP.ed (by omega) (by omega)).mono ?_;rintro r w1⟨r1,rfl,q0,q1,hb1⟩;have aS:=hA.trans (hb1.mono (by simp));have c0:=hb1.cell (p:=⟨w.heap.size,2,none⟩) (by simp);have c1:=hb1.cell (p:=⟨w.heap.size,3,none⟩) (by simp);simp[go_sem]at c0 c1;have z1:=cell_lt c0;by_cases Bd:r1<0
 ·go_wp2;go_ret;exact⟨_,rfl,by omega,by omega,aS⟩
 ·go_wp2_with fail
  refine(acA _ g.aj _ _ (hg.inn.keep aS) aP.inn (by omega) (by omega)).mono ?_;rintro r w2⟨r2,rfl,q2,q3,hb2⟩;have aZ:=aS.trans (hb2.mono aS.size);replace c1:=aK hb2 c1;have z2:=cell_lt c1;by_cases TF:r2<0
  ·go_wp2;go_ret;exact⟨_,rfl,by omega,by omega,aZ⟩
  ·go_wp2_with fail
   refine(acA _ g.ay _ _ (hg.out.keep aZ) aP.out (by omega) (by omega)).mono ?_;rintro r w3⟨r3,rfl,q4,q5,hb3⟩;have fU:=aZ.trans (hb3.mono aZ.size);go_wp2;all_goals
    go_ret;exact⟨_,rfl,by omega,by omega,fU⟩
theorem acB (v v':Value) (a:List Int) (w:World) (hv:aU w v a) (hv':aU w v' a) (hn:a.length<=1048576) :
  Calls Tryz.prog 38 #[v,v'] w (nH true w):=by
 obtain⟨p,cap,rfl,hc,hat⟩:=hv;obtain⟨p',cap',rfl,hc',hat'⟩:=hv';have iH:((a.length:Int) != a.length)=false:=by simp
 go_enter Tryz.func38,Tryz.ntmps38;go_wp2;go_loopw [5] (λi wr=>∃k:Nat,k<=a.length/\i=.int .i64 k/\Below w.heap.size w wr) (λi _=>a.length-(intOf i).toNat)
 case atStart=>exact⟨0,Zw _,rfl,Zl _ _⟩
 case round =>
  obtain⟨k,hk,rfl,aI⟩:=hrel;by_cases hlt:k<a.length
  ·obtain⟨g,o,rfl,_,c0⟩:=hat k hlt;obtain⟨g',o',rfl,_,d0⟩:=hat' k hlt;rw[Z2]at c0 d0;replace c0:=aK aI c0;replace d0:=aK aI d0;obtain⟨z,hz⟩:∃z,a[k]=z:=⟨_,rfl⟩
   rw[hz]at c0 d0;have hzz:(z != z)=false:=by simp
   clear hat hat' hz;go_wp2_with fail
   go_still_tail 8,(by kernel_rfl)
   go_wp2_with fail
   have hs:=aI.drew.size;go_roundw
   case rel=>exact⟨k+1,by omega,by go_num,aI.drew⟩
   case measure=>simp[intOf];omega
  ·go_wp2;go_ret;exact⟨rfl,aI⟩
theorem apO (k v:Int) (vi vo lJ ig:Value) (e:aO) (w:World) (hi:aU w vi e.aj) (ho:aU w vo e.ay) (jy:aU w lJ e.aj) (iY:aU w ig e.ay) (aP:MI e) :
  Calls Tryz.prog 65 #[.agg #[.int .i64 k,.int .i64 v,vi,vo],.agg #[.int .i64 k,.int .i64 v,lJ,ig]] w (nH true w):=by
 obtain⟨a1,q1,rfl⟩:=hi.slice;obtain⟨a2,q2,rfl⟩:=ho.slice;obtain⟨a3,q3,rfl⟩:=jy.slice;obtain⟨a4,q4,rfl⟩:=iY.slice;have hA:∀x y,Below w.heap.size w ((w.alloc x).alloc y):=λx y=>(aH _ _).alloc (by simp) _;have hk:(k != k)=false:=by simp
 have hv:(v != v)=false:=by simp
 go_enter Tryz.func65,Tryz.ntmps65;go_wp2_with fail
 refine(acB _ _ e.aj _ (hi.keep (hA _ _)) (jy.keep (hA _ _)) aP.inn).mono ?_;rintro r w1⟨rfl,hb1⟩;have aS:=(hA (.cells #[.int .i64 k,.int .i64 v,.slice a1 e.aj.length q1,.slice a2 e.ay.length q2] 102) (.cells #[.int .i64 k,.int .i64 v,.slice a3 e.aj.length q3,.slice a4 e.ay.length q4] 102)).trans (hb1.mono (by simp;omega));have c0:=hb1.cell (p:=⟨w.heap.size,3,none⟩) (by simp;omega);have c1:=hb1.cell (p:=⟨w.heap.size+1,3,none⟩) (by simp);simp[go_sem]at c0 c1;have z0:=cell_lt c0;have z1:=cell_lt c1;go_wp2_with fail
 refine(acB _ _ e.ay _ (ho.keep aS) (iY.keep aS) aP.out).mono ?_;rintro r w2⟨rfl,hb2⟩;go_wp2;go_ret;exact⟨rfl,aS.trans (hb2.mono aS.size)⟩
theorem apP (v v':Value) (a:List aO) (w:World) (hv:oM w v a) (hv':oM w v' a) (hn:a.length<=1048576) (hs:∀e∈a,MI e) :
  Calls Tryz.prog 37 #[v,v'] w (nH true w):=by
 obtain⟨p,cap,rfl,hc,hat⟩:=hv;obtain⟨p',cap',rfl,hc',hat'⟩:=hv';have iH:((a.length:Int) != a.length)=false:=by simp
 go_enter Tryz.func37,Tryz.ntmps37;go_wp2;go_loopw [5] (λi wr=>∃k:Nat,k<=a.length/\i=.int .i64 k/\Below w.heap.size w wr) (λi _=>a.length-(intOf i).toNat)
 case atStart=>exact⟨0,Zw _,rfl,Zl _ _⟩
 case round =>
  obtain⟨k,hk,rfl,aI⟩:=hrel;by_cases hlt:k<a.length
  ·obtain⟨g,o,rfl,_,dI⟩:=hat k hlt;obtain⟨g',o',rfl,_,Il⟩:=hat' k hlt;obtain⟨c0,c1,vi,vo,c2,c3,hi,ho⟩:=dI.keep aI;obtain⟨d0,d1,lJ,ig,d2,d3,jy,iY⟩:=Il.keep aI;have aP:=hs a[k] (Zp _);obtain⟨a1,q1,rfl⟩:=hi.slice;obtain⟨a2,q2,rfl⟩:=ho.slice;obtain⟨a3,q3,rfl⟩:=jy.slice;obtain⟨a4,q4,rfl⟩:=iY.slice;clear hat hat' dI Il hs;go_wp2_with fail
   go_still_tail 8,(by kernel_rfl)
   go_wp2_with (go_at_call 65;refine(apO _ _ _ _ _ _ a[k] wr.drew hi ho jy iY aP).mono ?_;rintro e w2⟨rfl,hb2⟩)
   have hs:=aI.drew.size;go_roundw
   case rel=>exact⟨k+1,by omega,by go_num,aI.drew.trans (hb2.mono (by omega))⟩
   case measure=>simp[intOf];omega
  ·go_wp2;go_ret;exact⟨rfl,aI⟩
theorem apQ (n:Int) (ve vi vo ve' lJ ig:Value) (g:aF) (w:World) (h:dM w ve vi vo g) (h':dM w ve' lJ ig g) (aP:nJ g) :
  Calls Tryz.prog 13 #[.agg #[.int .i64 n,ve,vi,vo],.agg #[.int .i64 n,ve',lJ,ig]] w (nH true w):=by
 obtain⟨⟨a0,q0,rfl⟩,⟨a1,q1,rfl⟩,a2,q2,rfl⟩:=h.slices;obtain⟨⟨b0,r0,rfl⟩,⟨b1,r1,rfl⟩,b2,r2,rfl⟩:=h'.slices;have hA:∀x y,Below w.heap.size w ((w.alloc x).alloc y):=λx y=>(aH _ _).alloc (by simp) _;have hk:(n != n)=false:=by simp
 go_enter Tryz.func13,Tryz.ntmps13;go_wp2_with fail
 refine(apP _ _ g.ah _ (h.ed.keep (hA _ _)) (h'.ed.keep (hA _ _)) aP.ed aP.xO).mono ?_;rintro r w1⟨rfl,hb1⟩;have aS:=(hA (.cells #[.int .i64 n,.slice a0 g.ah.length q0,.slice a1 g.aj.length q1,.slice a2 g.ay.length q2] 33) (.cells #[.int .i64 n,.slice b0 g.ah.length r0,.slice b1 g.aj.length r1,.slice b2 g.ay.length r2] 33)).trans (hb1.mono (by simp;omega));have c0:=hb1.cell (p:=⟨w.heap.size,2,none⟩) (by simp;omega);have c1:=hb1.cell (p:=⟨w.heap.size+1,2,none⟩) (by simp);have d0:=hb1.cell (p:=⟨w.heap.size,3,none⟩) (by simp;omega);have d1:=hb1.cell (p:=⟨w.heap.size+1,3,none⟩) (by simp);simp[go_sem]at c0 c1 d0 d1;have z0:=cell_lt c0;have z1:=cell_lt c1;go_wp2_with fail
 refine(acB _ _ g.aj _ (h.inn.keep aS) (h'.inn.keep aS) aP.inn).mono ?_;rintro r w2⟨rfl,hb2⟩;have aZ:=aS.trans (hb2.mono aS.size);replace d0:=aK hb2 d0;replace d1:=aK hb2 d1;have y0:=cell_lt d0;have y1:=cell_lt d1;go_wp2_with fail
 refine(acB _ _ g.ay _ (h.out.keep aZ) (h'.out.keep aZ) aP.out).mono ?_;rintro r w3⟨rfl,hb3⟩;go_wp2;go_ret;exact⟨rfl,aZ.trans (hb3.mono aZ.size)⟩
abbrev wV:=aF×Value×Value×Value
def avQ (w:World) (v:Value) (xs:List wV):Prop :=
 nD 4 v xs.length (λi b o=>∃h:i<xs.length,∀j,j<4->w.cell? ⟨b,o+j,none⟩=(FI xs[i])[j]?)/\∀x∈xs,dM w x.2.1 x.2.2.1 x.2.2.2 x.1
theorem apR {w:World} {xs:List wV} (h:∀x∈xs,dM w x.2.1 x.2.2.1 x.2.2.2 x.1):∀u∈xs.flatMap FI,u.oneCell'=true:=by
 intro u hu;obtain⟨x,hx,hd⟩:=Z6.1 hu;obtain⟨⟨ae,ce,e1⟩,⟨ai,ci,e2⟩,ao,co,e3⟩:=(h x hx).slices;simp only[FI,ZU,YM,XM]at hd;rcases hd with rfl|rfl|rfl|rfl
 ·rfl
 ·rw[e1];rfl
 ·rw[e2];rfl
 ·rw[e3];rfl
structure GsR (w0 w:World) (v:Value) (xs:List wV):Prop where
 row:w.ownsRow w0.heap.size 33 4 v xs.length (xs.flatMap FI)
 els:∀x∈xs,dM w0 x.2.1 x.2.2.1 x.2.2.2 x.1
def SnI.graphs (s:SnI):List aF:=s.now::s.goal::(s.past++s.future)
def TxV (w:World) (B tb gt:Nat) (v:Value):Option ByteArray->Prop
 | none=>v=.slice none 0 0
 | some t=>∃g cap,v=.slice (some ⟨g,0,none⟩) t.size cap/\g≠tb/\g≠gt/\(B<=g/\∃cs fr,w.heap[g]?=some (.cells cs 5 fr))/\∀j (h:j<t.size),w.cell? ⟨g,j,none⟩=some (.int .u8 (t[j].toNat:Int))
def u8V (c:UInt8):Value:=.int .u8 (c.toNat:Int)
def avR (wr:World) (gb N:Nat) (pre:List UInt8):Prop:=∃rest:List Value,wr.heap[gb]?=some (.cells (pre.map u8V++rest).toArray 5 (0,0))/\pre.length+rest.length=N
structure avS (g:Nat->Nat) (l:List UInt8) (i:Nat) (w wr:World) (gb:Nat):Prop where
 lo:w.heap.size<=gb
 hi:gb<wr.heap.size
 cell:∀j (h:j<l.length),wr.cell? ⟨gb,j,none⟩=some (.int .u8 ((if j<i then UInt8.ofNat (g l[j].toNat)else l[j]).toNat:Int))
 avT:∀j,j<l.length->wr.frozen? ⟨gb,j,none⟩=false
structure avU (w:World) (b:Nat) (c:Int) (m:Int) (r:Value):Prop where
 c0:w.cell? ⟨b,0,none⟩=some (.int .u32 c)
 c1:w.cell? ⟨b,1,none⟩=some (.int .i32 m)
 c3:w.cell? ⟨b,3,none⟩=some r
 fz:∀j,w.frozen? ⟨b,j,none⟩=false
def by0 (x:ByteArray):Nat:=(x.data.toList.headD 0).toNat
def gB (x0 x1 x2 x3 x4:ByteArray) (j:Nat):Nat:=if j=75 then by0 x0 else if j=76 then by0 x1 else if j=77 then by0 x2 else if j=83 then by0 x3 else if j=78 then by0 x4 else j
def Tr.Kq:Tr->Bool
 | .leaf n=>!decide (n.kind=15)&&!decide (n.kind=16)
 | .seq a b=>a.Kq&&b.Kq
 | .par a b=>a.Kq&&b.Kq
theorem acC:∀t:Tr,t.Np.Kq=true->t.LK
 | .leaf n,h=>by
  simp only[Tr.Np,Tr.Kq,Zu,Wa,WF]at h;simp only[Tr.LK,not_or];exact h
 | .seq a b,h=>by
  simp only[Tr.Np,Tr.Kq,Zu]at h;exact⟨acC a h.1,acC b h.2⟩
 | .par a b,h=>by
  simp only[Tr.Np,Tr.Kq,Zu]at h;exact⟨acC a h.1,acC b h.2⟩
def okZ (t:Tr):Bool:=t.Kq&&(t.ty (bI [])).isSome&&decide (t.nodes.length<=13)
def acD (P:Int->Bool):Tr->Bool
 | .leaf n=>if n.kind=7\/n.kind=13 then P n.value&&decide (n.name=⟨#[]⟩)else jB n
 | .seq a b=>acD P a&&acD P b
 | .par a b=>acD P a&&acD P b
def trs (L:List (ByteArray×Tr×Tr)):List Tr:=L.flatMap λx=>[x.2.1,x.2.2,x.2.1.SY,x.2.2.SY]
structure avV (k l m s n:Int):Prop where
 hk:0<=k/\k<=96
 hl:0<=l/\l<=96
 hm:0<=m/\m<=96
 hs:0<=s/\s<=96
 hn:0<=n/\n<=96
def avW (w:World) (g:Nat):Prop:=∀i,∀h:i<27,w.cell? ⟨g,i*3,none⟩=some (.string (aek[i]'h).1)/\w.cell? ⟨g,i*3+1,none⟩=some (.string (aek[i]'h).2.1)/\w.cell? ⟨g,i*3+2,none⟩=some (.string (aek[i]'h).2.2)
structure AxT (wr w2:World) (b n:Nat) (xs:List Nj) (v:Value) (ys:List Nj):Prop where
 row:aoF w2 (b+1) v ys
 tag:∀y∈ys,y∈xs.take n\/(jA w2 wr.heap.size y.2.1 y.1.left/\jA w2 wr.heap.size y.2.2 y.1.right)
 bel:Below wr.heap.size wr w2
 blk:∀k,v.ownBlock=some k->wr.heap.size<=k
def HgM:Prop:=∀(ve vi vo:Value) (g:aF) (u:World),dM u ve vi vo g->nJ g->aY g=true->Calls Tryz.prog 73 #[.agg #[.int .i64 g.aB,ve,vi,vo]] u (nH (monoB g) u)
end Go.Proofs.YtkhpobekconobaaGreat
