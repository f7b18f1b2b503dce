import Derived.Test.YtkhpobekconobaaGreatHAD
set_option linter.all false
set_option maxRecDepth 100000
set_option maxHeartbeats 0
namespace Go.Proofs.YtkhpobekconobaaGreat
open Go.RowKit
theorem aea:(Tryz.prog.info? 102).map (λi=>(i.zero,i.size,i.bytes))=some (some (.agg #[.int .i64 0,.int .i64 0,.slice none 0 0,.slice none 0 0]),4,64):=by kernel_rfl
theorem anU:(Tryz.prog.info? 33).map (λi=>(i.zero,i.size,i.bytes))=some (some (.agg #[.int .i64 0,.slice none 0 0,.slice none 0 0,.slice none 0 0]),4,80):=by kernel_rfl
theorem abW (v:Value) (zs:List Int) (w:World) (hv:aU w v zs) (hn:zs.length<=1048576) :
  Calls Tryz.prog 33 #[v] w λe w'=>∃v',e=.returned v'/\Rw w' w.heap.size v' zs/\Below w.heap.size w w':=by
 obtain⟨a,cap,rfl,hc,hat⟩:=hv;obtain⟨i0,hi,hz0,hz1,hz2⟩:=Yg yV;go_enter Tryz.func33,Tryz.ntmps33;go_wp2_with (at_make;refine Yo _ rfl _ _ _ rfl w.heap.size 3 i0 _ 1 Tryz.underlying23 hi hz0 hz1 _ _ _ _ zs.length rfl rfl rfl rfl (by rw[hz2];omega) (by unfold maxLen;omega) (Zj _) ?_;intro w1 hown hgr)
 have hz:=vZ (f:=gU) (0:Int) zs.length (sz:=1) (by omega) rfl;have Aw:w1.ownsRow w.heap.size 3 1 (Value.slice (some { block:=w.heap.size,off:=0 }) zs.length zs.length) zs.length ((zs.take 0++List.replicate (zs.length-0) 0).flatMap gU):=by
  simp only[Y5,YW,VA];rw[<-hz];exact hown
 have hlt:w.heap.size<w1.heap.size:=(hown.lt w.heap.size rfl).2;have hb1:Below w.heap.size w w1:=(Zl _ _).grown hgr (Zj _) (by simp);clear hown hz hgr;go_loopw [4] (λi wr=>∃k:Nat,k<=zs.length/\i=.int .i64 k/\wr.ownsRow w.heap.size 3 1 (Value.slice (some { block:=w.heap.size,off:=0 }) zs.length zs.length) zs.length ((zs.take k++List.replicate (zs.length-k) 0).flatMap gU)/\w.heap.size<wr.heap.size/\Below w.heap.size w wr) (λi _=>zs.length-(intOf i).toNat)
 case atStart=>exact⟨0,Zw _,rfl,Aw,hlt,hb1⟩
 case round =>
  obtain⟨k,hk,rfl,hown,hsz,aI⟩:=hrel;clear Aw hlt hb1;by_cases hlt:k<zs.length
  ·obtain⟨b,o,rfl,_,c0⟩:=hat k hlt;rw[Z2]at c0;replace c0:=aK aI c0;have Eo:(zs.take k++List.replicate (zs.length-k) 0).length=zs.length:=by simp;omega
   have d0:=mV sF hown k 0 (by rw[Eo];exact hlt) (by omega);have f0:=hown.frozenAt (k*1);simp only[gU,Z2,YC,Zc]at d0 f0;have MQ:=Ap sF hown k 0 _ (by rw[Eo];exact hlt) (by omega) rfl (.int .i64 zs[k]) zs[k] rfl;rw[take_set zs 0 k hlt,Z2,YC]at MQ;clear hat
   go_wp2_with fail
   go_roundw
   case rel=>exact⟨k+1,by omega,by go_num,MQ,by simp;omega,aI.setCell (Zj _) _⟩
   case measure=>simp[intOf];omega
  ·go_wp2;go_ret;have mX:k=zs.length:=by omega
   subst mX;refine⟨_,rfl,?_,aI⟩;simpa[Rw]using hown
theorem Rw.slice {w:World} {B:Nat} {v:Value} {xs:List Int} (h:Rw w B v xs):∃a c,v=.slice a xs.length c:=h.at.slice
theorem anV (e:aO) (vi vo:Value) (w:World) (hi:aU w vi e.aj) (ho:aU w vo e.ay) (aP:MI e) :
  Calls Tryz.prog 58 #[.agg #[.int .i64 e.kind,.int .i64 e.value,vi,vo]] w λr w'=>∃lJ ig,r=.returned (.agg #[.int .i64 e.kind,.int .i64 e.value,lJ,ig])/\Rw w' w.heap.size lJ e.aj/\Rw w' w.heap.size ig e.ay/\Below w.heap.size w w':=by
 obtain⟨a1,q1,rfl⟩:=hi.slice;obtain⟨a2,q2,rfl⟩:=ho.slice;go_enter Tryz.func58,Tryz.ntmps58;go_wp2_with fail
 have kI:=((Bk.new w 91 #[.int .i64 e.kind,.int .i64 e.value,.slice a1 e.aj.length q1,.slice a2 e.ay.length q2]).alloc (.cells #[.int .i64 0,.int .i64 0,.slice none 0 0,.slice none 0 0] 102)).alloc (.cells #[.int .i64 e.kind,.int .i64 e.value,.slice none 0 0,.slice none 0 0] 102);have kR:=(Bk.new (w.alloc (.cells #[.int .i64 e.kind,.int .i64 e.value,.slice a1 e.aj.length q1,.slice a2 e.ay.length q2] 91)) 102 #[.int .i64 0,.int .i64 0,.slice none 0 0,.slice none 0 0]).alloc (.cells #[.int .i64 e.kind,.int .i64 e.value,.slice none 0 0,.slice none 0 0] 102);have kO:=Bk.new ((w.alloc (.cells #[.int .i64 e.kind,.int .i64 e.value,.slice a1 e.aj.length q1,.slice a2 e.ay.length q2] 91)).alloc (.cells #[.int .i64 0,.int .i64 0,.slice none 0 0,.slice none 0 0] 102)) 102 #[.int .i64 e.kind,.int .i64 e.value,.slice none 0 0,.slice none 0 0];have hB:=((aH w (.cells #[.int .i64 e.kind,.int .i64 e.value,.slice a1 e.aj.length q1,.slice a2 e.ay.length q2] 91)).alloc (by simp) (.cells #[.int .i64 0,.int .i64 0,.slice none 0 0,.slice none 0 0] 102)).alloc (by simp;omega) (.cells #[.int .i64 e.kind,.int .i64 e.value,.slice none 0 0,.slice none 0 0] 102);have hz:w.heap.size+1+1<(((w.alloc (.cells #[.int .i64 e.kind,.int .i64 e.value,.slice a1 e.aj.length q1,.slice a2 e.ay.length q2] 91)).alloc (.cells #[.int .i64 0,.int .i64 0,.slice none 0 0,.slice none 0 0] 102)).alloc (.cells #[.int .i64 e.kind,.int .i64 e.value,.slice none 0 0,.slice none 0 0] 102)).heap.size:=by simp
 simp only[Zn]at kR kO;generalize(((w.alloc (.cells #[.int .i64 e.kind,.int .i64 e.value,.slice a1 e.aj.length q1,.slice a2 e.ay.length q2] 91)).alloc (.cells #[.int .i64 0,.int .i64 0,.slice none 0 0,.slice none 0 0] 102)).alloc (.cells #[.int .i64 e.kind,.int .i64 e.value,.slice none 0 0,.slice none 0 0] 102))=u0 at *;refine(abW _ e.aj _ (hi.keep hB) aP.inn).mono ?_;rintro r u1⟨v1,rfl,hr1,hb1⟩;obtain⟨b1,s1,rfl⟩:=hr1.slice;replace kI:=kI.keep hb1;replace kR:=kR.keep hb1;replace kO:=kO.keep hb1;replace hB:=hB.trans (hb1.mono hB.size);obtain⟨iI,-,zI⟩:=kI.cell;obtain⟨iO,fO,zO⟩:=kO.cell;go_wp2_with fail
 replace kI:=kI.other ⟨w.heap.size+1+1,2,none⟩ (.slice b1 e.aj.length s1) (by simp;omega);replace kR:=kR.other ⟨w.heap.size+1+1,2,none⟩ (.slice b1 e.aj.length s1) (by simp);replace kO:=kO.set 2 (.slice b1 e.aj.length s1);replace hB:Below w.heap.size w (u1.setCell ⟨w.heap.size+1+1,2,none⟩ (.slice b1 e.aj.length s1)):=hB.setCell (by simp;omega) _;have Az:Rw (u1.setCell ⟨w.heap.size+1+1,2,none⟩ (.slice b1 e.aj.length s1)) (w.heap.size+1+1+1) (.slice b1 e.aj.length s1) e.aj:=(hr1.other _ _ hz).mono (by omega);have hz1:w.heap.size+1+1<(u1.setCell ⟨w.heap.size+1+1,2,none⟩ (.slice b1 e.aj.length s1)).heap.size:=by simpa using zO
 clear iI zI iO fO zO hr1 hb1 hz;generalize(u1.setCell ⟨w.heap.size+1+1,2,none⟩ (.slice b1 e.aj.length s1))=u2 at *;refine(abW _ e.ay _ (ho.keep hB) aP.out).mono ?_;rintro r u3⟨v2,rfl,hr2,hb2⟩;obtain⟨b2,s2,rfl⟩:=hr2.slice;replace kR:=kR.keep hb2;replace kO:=kO.keep hb2;replace hB:=hB.trans (hb2.mono hB.size);replace Az:=Az.keep hb2;obtain⟨iO,fO,zO⟩:=kO.cell;obtain⟨iR,fR,zR⟩:=kR.cell;go_wp2_with fail
 have JL:=hr2.mono (B':=w.heap.size+1+1+1) (by omega);refine Zt (v:=.agg #[.int .i64 e.kind,.int .i64 e.value,.slice b1 e.aj.length s1,.slice b2 e.ay.length s2]) (by simp[results,Tryz.results58,go_sem,iR]) rfl ⟨_,_,rfl,?_,?_,?_⟩
 ·exact(((((Az.other _ _ (by simp)).other _ _ (by simp only[];omega)).other _ _ (by simp only[];omega)).other _ _ (by simp only[];omega)).other _ _ (by simp only[];omega)).mono (by omega)
 ·exact(((((JL.other _ _ (by simp)).other _ _ (by simp only[];omega)).other _ _ (by simp only[];omega)).other _ _ (by simp only[];omega)).other _ _ (by simp only[];omega)).mono (by omega)
 ·exact((((hB.setCell (by simp;omega) _).setCell (by simp) _).setCell (by simp) _).setCell (by simp) _).setCell (by simp) _
structure Iy {β:Type} (e:Nat) (f:β->List Value) (z:β) (ok:World->Nat->β->Prop) (w wr:World) (g n:Nat) (ys:List β):Prop where
 row:wr.ownsRow g e 4 (.slice (some ⟨g,0,none⟩) n n) n ((ys++List.replicate (n-ys.length) z).flatMap f)
 els:∀x∈ys,ok wr (g+1) x
 lt:g<wr.heap.size
 bel:Below g w wr
section
variable {β:Type} {e:Nat} {f:β -> List Value} {z:β} {ok:World -> Nat -> β -> Prop} (hf:∀ x,(f x).length=4)
theorem Iy.start {w w1:World} {n:Nat} (hf:∀x,(f x).length=4) (hown:w1.ownsRow w.heap.size e 4 (Value.slice (some ⟨w.heap.size,0,none⟩) n n) n (madeCells (f z).toArray (n*4)).toList) (hgr:w.grownBy w1 none):Iy e f z ok w w1 w.heap.size n []:=by
 have hz:=vZ (f:=f) z n (sz:=4) (by omega) (hf z);refine⟨?_,by simp,(hown.lt w.heap.size rfl).2,(Zl _ _).grown hgr (Zj _) (by simp)⟩;simp only[YW,Y6,VA];rw[<-hz];exact hown
theorem Iy.old {w wr w2:World} {g n k:Nat} {ys:List β} (hf:∀x,(f x).length=4) (h:Iy e f z ok w wr g n ys) (hk:ys.length=k) (Ar:k<n) (hb2:Below wr.heap.size wr w2) :
  (∀j,j<4->w2.cell? ⟨g,k*4+j,none⟩=(f z)[j]?)/\(∀o,w2.frozen? ⟨g,o,none⟩=false)/\g<w2.heap.size:=by
 subst hk;have hr:=jL hb2 h.row;have hl:ys.length<(ys++List.replicate (n-ys.length) z).length:=by simp;omega
 refine⟨λj hj=>?_,λo=>hr.frozenAt o,Yc h.lt hb2.size⟩;have:=mV hf hr ys.length j hl hj;rw[this,YY (Zj _)];simp
theorem Iy.step {w wr w2:World} {g n k:Nat} {ys:List β} (hf:∀x,(f x).length=4)
  (kp:∀{w w':World} {B:Nat} {x:β},Below w.heap.size w w'->ok w B x->ok w' B x) (lw:∀{w:World} {B:Nat} {x:β} {a:Addr} {u:Value},a.block<B->ok w B x->ok (w.setCell a u) B x) (mn:∀{w:World} {B B':Nat} {x:β},B'<=B->ok w B x->ok w B' x)
  (h:Iy e f z ok w wr g n ys) (hk:ys.length=k) (Ar:k<n) (hb2:Below wr.heap.size wr w2) (x:β) (hx:ok w2 wr.heap.size x) {a b c d:Value} (hy:f x=[a,b,c,d]) :
  Iy e f z ok w ((((w2.setCell ⟨g,k*4,none⟩ a).setCell ⟨g,k*4+1,none⟩ b).setCell ⟨g,k*4+2,none⟩ c).setCell ⟨g,k*4+3,none⟩ d) g n (ys++[x]):=by
 subst hk;have hr:=jL hb2 h.row;have hsz:=hb2.size;have hlt:=h.lt;refine⟨?_,?_,?_,?_⟩
 ·have:=am7 hf hr ys.length (by simp;omega) a b c d x hy;have e:(ys++List.replicate (n-ys.length) z).set ys.length x=ys++[x]++List.replicate (n-(ys++[x]).length) z:=by
   rw[Yw _ _ (Zj _),XO];obtain⟨m,hm⟩:∃m,n-ys.length=m+1:=⟨n-ys.length-1,by omega⟩
   rw[hm,show n-(ys++[x]).length=m by simp;omega,XU,XZ,Zz];rfl
  rw[e]at this;exact this
 ·intro y hy';have hl:∀{y:β},ok w2 (g+1) y->ok ((((w2.setCell ⟨g,ys.length*4,none⟩ a).setCell ⟨g,ys.length*4+1,none⟩ b).setCell ⟨g,ys.length*4+2,none⟩ c).setCell ⟨g,ys.length*4+3,none⟩ d) (g+1) y:=λh1 =>
   lw (Xi _) (lw (Xi _) (lw (Xi _) (lw (Xi _) h1)))
  rcases Zs.1 hy' with h1|h1
  ·exact hl (kp hb2 (h.els y h1))
  ·simp only[ZS]at h1;subst h1;exact hl (mn (by omega) hx)
 ·simp;omega
 ·exact(((((h.bel.trans (hb2.mono (by omega))).setCell (Zj _) _).setCell (Zj _) _).setCell (Zj _) _).setCell (Zj _) _)
end
def edz:aO×Value×Value:=(⟨0,0,[],[]⟩,.slice none 0 0,.slice none 0 0)
def ahj (w:World) (B:Nat) (x:aO×Value×Value):Prop:=Rw w B x.2.1 x.1.aj/\Rw w B x.2.2 x.1.ay
theorem anW (v:Value) (L:List aO) (w:World) (hv:oM w v L) (hn:L.length<=1048576) (hs:∀e∈L,MI e) :
  Calls Tryz.prog 32 #[v] w λe w'=>∃v',e=.returned v'/\mW w' w.heap.size v' L/\Below w.heap.size w w':=by
 obtain⟨a,cap,rfl,hc,hat⟩:=hv;obtain⟨i0,hi,hz0,hz1,hz2⟩:=Yg aea;go_enter Tryz.func32,Tryz.ntmps32;go_wp2_with (at_make;refine Yo _ rfl _ _ _ rfl w.heap.size 102 i0 _ 4 Tryz.underlying31 hi hz0 hz1 _ _ _ _ L.length rfl rfl rfl rfl (by rw[hz2];omega) (by unfold maxLen;omega) (Zj _) ?_;intro w1 hown hgr)
 have hst:Iy 102 nK edz ahj w w1 w.heap.size L.length []:=Iy.start RX hown hgr;clear hown hgr hi hz0 hz1 hz2;go_loopw [4] (λi wr=>∃(k:Nat) (ys:List (aO×Value×Value)),k<=L.length/\i=.int .i64 k/\ys.map Prod.fst=L.take k/\Iy 102 nK edz ahj w wr w.heap.size L.length ys) (λi _=>L.length-(intOf i).toNat)
 case atStart=>exact⟨0,[],Zw _,rfl,rfl,hst⟩
 case round =>
  clear hst;obtain⟨k,ys,hk,rfl,FW,hst⟩:=hrel;have uD:ys.length=k:=by have:=congrArg List.length FW;simpa[YR hk]using this
  by_cases hlt:k<L.length
  ·obtain⟨b,o,rfl,_,dI⟩:=hat k hlt;have abX:=hst.lt;obtain⟨c0,c1,vi,vo,c2,c3,hvi,yX⟩:=dI.keep (hst.bel.mono (Zj _));have aP:=hs L[k] (Zp _);have hLt:L.take (k+1)=L.take k++[L[k]]:=Zv hlt;have HY:=Za (Zb FW (Zb uD hLt));obtain⟨a1,q1,rfl⟩:=hvi.slice;obtain⟨a2,q2,rfl⟩:=yX.slice;clear hat dI hs FW uD hLt;go_wp2_with (go_at_call 58;refine(anV L[k] _ _ _ hvi yX aP).mono ?_;rintro r w2⟨u1,u2,rfl,hr1,hr2,hb2⟩;obtain⟨d,hf2,SA⟩:=hst.old RX HY.out.2.1 hlt hb2;have d0:w2.cell? ⟨w.heap.size,k*4,none⟩=some (.int .i64 0):=d 0 (by omega);have d1:w2.cell? ⟨w.heap.size,k*4+1,none⟩=some (.int .i64 0):=d 1 (by omega);have d2:w2.cell? ⟨w.heap.size,k*4+2,none⟩=some (.slice none 0 0):=d 2 (by omega);have d3:w2.cell? ⟨w.heap.size,k*4+3,none⟩=some (.slice none 0 0):=d 3 (by omega);clear d;obtain⟨b1,s1,rfl⟩:=hr1.slice;obtain⟨b2,s2,rfl⟩:=hr2.slice)
   have dK:=hst.step RX (λhb h=>⟨h.1.keep hb,h.2.keep hb⟩) (λha h=>⟨h.1.other _ _ ha,h.2.other _ _ ha⟩) (λhB h=>⟨h.1.mono hB,h.2.mono hB⟩) HY.out.2.1 hlt hb2 (L[k],.slice b1 L[k].aj.length s1,.slice b2 L[k].ay.length s2) ⟨hr1,hr2⟩ rfl;go_roundw
   case rel=>exact⟨k+1,_,by omega,by go_num,by rw[ZK,HY.out.1,HY.out.2.2];rfl,dK⟩
   case measure=>simp[intOf];omega
  ·obtain rfl:k=L.length:=by omega
   go_wp2;go_ret;rw[ZY]at FW;refine⟨_,rfl,⟨ys,FW,?_,λx hx=>⟨(hst.els x hx).1.mono (by omega),(hst.els x hx).2.mono (by omega)⟩⟩,hst.bel⟩;have:=hst.row;rw[uD]at this ⊢;simpa using this
theorem mW.slice {w:World} {B:Nat} {v:Value} {xs:List aO} (h:mW w B v xs):∃a c,v=.slice a xs.length c:=h.at.slice
theorem anX (g:aF) (ve vi vo:Value) (w:World) (hg:dM w ve vi vo g) (aP:nJ g) :
  Calls Tryz.prog 10 #[.agg #[.int .i64 g.aB,ve,vi,vo]] w λr w'=>∃ve' lJ ig,r=.returned (.agg #[.int .i64 g.aB,ve',lJ,ig])/\dB w' w.heap.size ve' lJ ig g/\Below w.heap.size w w':=by
 obtain⟨⟨ae,ce,rfl⟩,⟨ai,ci,rfl⟩,ao,co,rfl⟩:=hg.slices;go_enter Tryz.func10,Tryz.ntmps10;go_wp2_with fail
 have kI:=((Bk.new w 25 #[.int .i64 g.aB,.slice ae g.ah.length ce,.slice ai g.aj.length ci,.slice ao g.ay.length co]).alloc (.cells #[.int .i64 0,.slice none 0 0,.slice none 0 0,.slice none 0 0] 33)).alloc (.cells #[.int .i64 g.aB,.slice none 0 0,.slice none 0 0,.slice none 0 0] 33);have kR:=(Bk.new (w.alloc (.cells #[.int .i64 g.aB,.slice ae g.ah.length ce,.slice ai g.aj.length ci,.slice ao g.ay.length co] 25)) 33 #[.int .i64 0,.slice none 0 0,.slice none 0 0,.slice none 0 0]).alloc (.cells #[.int .i64 g.aB,.slice none 0 0,.slice none 0 0,.slice none 0 0] 33);have kO:=Bk.new ((w.alloc (.cells #[.int .i64 g.aB,.slice ae g.ah.length ce,.slice ai g.aj.length ci,.slice ao g.ay.length co] 25)).alloc (.cells #[.int .i64 0,.slice none 0 0,.slice none 0 0,.slice none 0 0] 33)) 33 #[.int .i64 g.aB,.slice none 0 0,.slice none 0 0,.slice none 0 0];have hB:=((aH w (.cells #[.int .i64 g.aB,.slice ae g.ah.length ce,.slice ai g.aj.length ci,.slice ao g.ay.length co] 25)).alloc (by simp) (.cells #[.int .i64 0,.slice none 0 0,.slice none 0 0,.slice none 0 0] 33)).alloc (by simp;omega) (.cells #[.int .i64 g.aB,.slice none 0 0,.slice none 0 0,.slice none 0 0] 33);have hz:w.heap.size+1+1<(((w.alloc (.cells #[.int .i64 g.aB,.slice ae g.ah.length ce,.slice ai g.aj.length ci,.slice ao g.ay.length co] 25)).alloc (.cells #[.int .i64 0,.slice none 0 0,.slice none 0 0,.slice none 0 0] 33)).alloc (.cells #[.int .i64 g.aB,.slice none 0 0,.slice none 0 0,.slice none 0 0] 33)).heap.size:=by simp
 simp only[Zn]at kR kO;generalize(((w.alloc (.cells #[.int .i64 g.aB,.slice ae g.ah.length ce,.slice ai g.aj.length ci,.slice ao g.ay.length co] 25)).alloc (.cells #[.int .i64 0,.slice none 0 0,.slice none 0 0,.slice none 0 0] 33)).alloc (.cells #[.int .i64 g.aB,.slice none 0 0,.slice none 0 0,.slice none 0 0] 33))=u0 at *;refine(anW _ g.ah _ (hg.ed.keep hB) aP.ed aP.xO).mono ?_;rintro r u1⟨v1,rfl,hr1,hb1⟩;obtain⟨b1,s1,rfl⟩:=hr1.slice;replace kI:=kI.keep hb1;replace kR:=kR.keep hb1;replace kO:=kO.keep hb1;replace hB:=hB.trans (hb1.mono hB.size);obtain⟨iI,-,zI⟩:=kI.cell;obtain⟨iO,fO,zO⟩:=kO.cell;go_wp2_with fail
 replace kI:=kI.other ⟨w.heap.size+1+1,1,none⟩ (.slice b1 g.ah.length s1) (by simp;omega);replace kR:=kR.other ⟨w.heap.size+1+1,1,none⟩ (.slice b1 g.ah.length s1) (by simp);replace kO:=kO.set 1 (.slice b1 g.ah.length s1);replace hB:Below w.heap.size w (u1.setCell ⟨w.heap.size+1+1,1,none⟩ (.slice b1 g.ah.length s1)):=hB.setCell (by simp;omega) _;have Az:mW (u1.setCell ⟨w.heap.size+1+1,1,none⟩ (.slice b1 g.ah.length s1)) (w.heap.size+1+1+1) (.slice b1 g.ah.length s1) g.ah:=(hr1.low hz _).mono (by omega);have hz1:w.heap.size+1+1<(u1.setCell ⟨w.heap.size+1+1,1,none⟩ (.slice b1 g.ah.length s1)).heap.size:=by simpa using zO
 clear iI zI iO fO zO hr1 hb1 hz;generalize(u1.setCell ⟨w.heap.size+1+1,1,none⟩ (.slice b1 g.ah.length s1))=u2 at *;refine(abW _ g.aj _ (hg.inn.keep hB) aP.inn).mono ?_;rintro r u3⟨v2,rfl,hr2,hb2⟩;obtain⟨b2,s2,rfl⟩:=hr2.slice;replace kI:=kI.keep hb2;replace kR:=kR.keep hb2;replace kO:=kO.keep hb2;replace Az:=Az.keep hb2;replace hB:=hB.trans (hb2.mono hB.size);obtain⟨iI,-,zI⟩:=kI.cell;obtain⟨iO,fO,zO⟩:=kO.cell;go_wp2_with fail
 replace kI:=kI.other ⟨w.heap.size+1+1,2,none⟩ (.slice b2 g.aj.length s2) (by simp;omega);replace kR:=kR.other ⟨w.heap.size+1+1,2,none⟩ (.slice b2 g.aj.length s2) (by simp);replace kO:=kO.set 2 (.slice b2 g.aj.length s2);replace hB:Below w.heap.size w (u3.setCell ⟨w.heap.size+1+1,2,none⟩ (.slice b2 g.aj.length s2)):=hB.setCell (by simp;omega) _;have JL:Rw (u3.setCell ⟨w.heap.size+1+1,2,none⟩ (.slice b2 g.aj.length s2)) (w.heap.size+1+1+1) (.slice b2 g.aj.length s2) g.aj:=(hr2.other _ _ hz1).mono (by omega);replace Az:mW (u3.setCell ⟨w.heap.size+1+1,2,none⟩ (.slice b2 g.aj.length s2)) _ _ _:=Az.low (by simp) _;have hz2:w.heap.size+1+1<(u3.setCell ⟨w.heap.size+1+1,2,none⟩ (.slice b2 g.aj.length s2)).heap.size:=by simpa using zO
 clear iI zI iO fO zO hr2 hb2 hz1;generalize(u3.setCell ⟨w.heap.size+1+1,2,none⟩ (.slice b2 g.aj.length s2))=u4 at *;refine(abW _ g.ay _ (hg.out.keep hB) aP.out).mono ?_;rintro r u5⟨v3,rfl,hr3,hb3⟩;obtain⟨b3,s3,rfl⟩:=hr3.slice;replace kR:=kR.keep hb3;replace kO:=kO.keep hb3;replace hB:=hB.trans (hb3.mono hB.size);replace Az:=Az.keep hb3;replace JL:=JL.keep hb3;obtain⟨iO,fO,zO⟩:=kO.cell;obtain⟨iR,fR,zR⟩:=kR.cell;go_wp2_with fail
 have tC:=hr3.mono (B':=w.heap.size+1+1+1) (by omega);refine Zt (v:=.agg #[.int .i64 g.aB,.slice b1 g.ah.length s1,.slice b2 g.aj.length s2,.slice b3 g.ay.length s3]) (by simp[results,Tryz.results10,go_sem,iR]) rfl ⟨_,_,_,rfl,⟨?_,?_,?_⟩,?_⟩
 ·exact((((((Az.low (by simp) _).low (by simp only[];omega) _).low (by simp only[];omega) _).low (by simp only[];omega) _).low (by simp only[];omega) _)).mono (by omega)
 ·exact(((((JL.other _ _ (by simp)).other _ _ (by simp only[];omega)).other _ _ (by simp only[];omega)).other _ _ (by simp only[];omega)).other _ _ (by simp only[];omega)).mono (by omega)
 ·exact(((((tC.other _ _ (by simp)).other _ _ (by simp only[];omega)).other _ _ (by simp only[];omega)).other _ _ (by simp only[];omega)).other _ _ (by simp only[];omega)).mono (by omega)
 ·exact((((hB.setCell (by simp;omega) _).setCell (by simp) _).setCell (by simp) _).setCell (by simp) _).setCell (by simp) _
theorem dB.slices {w:World} {B:Nat} {ve vi vo:Value} {g:aF} (h:dB w B ve vi vo g):(∃a c,ve=.slice a g.ah.length c)/\(∃a c,vi=.slice a g.aj.length c)/\∃a c,vo=.slice a g.ay.length c:=h.at.slices
def nN (b:Bool):List Value:=[.bool b]
theorem Es (b:Bool):(nN b).length=1:=rfl
def mF (n:Nat) (vis:List Int):List Bool:=(List.range n).map λi:Nat=>vis.contains (i:Int)
theorem AA (n:Nat) (vis:List Int):(mF n vis).length=n:=by simp[mF]
theorem JM (n:Nat) (vis:List Int) (i:Nat) (h:i<(mF n vis).length):(mF n vis)[i]=vis.contains (i:Int):=by simp[mF]
theorem SE (n:Nat):mF n []=List.replicate n false:=by
 apply YT
 ·simp[mF]
 ·intro i h1 h2;simp[mF]
theorem ahk (n:Nat) (vis:List Int) (z:Int) (hz:¬(0<=z/\z<n)):mF n (vis++[z])=mF n vis:=by
 unfold mF;apply YZ;intro i hi;have jy:i<n:=ZW.1 hi;have:¬(i:Int)=z:=λe=>hz ⟨by omega,by omega⟩;rw[YK];simp[this]
theorem OZ (n:Nat) (vis:List Int) (k:Nat) (hk:k<n):mF n (vis++[(k:Int)])=(mF n vis).set k true:=by
 apply YT
 ·simp[mF]
 ·intro i h1 h2;rw[XP];simp only[mF,YN,List.getElem_range];by_cases e:k=i
  ·subst e;simp
  ·rw[ZH e];have:¬(i:Int)=(k:Int):=λh=>e (by omega);rw[YK];simp[this]
def xQ (n:Nat) (vis:List Int):Nat:=(mF n vis).count true
theorem count_set (l:List Bool) (k:Nat) (hk:k<l.length):(l.set k true).count true=l.count true+if l[k]=true then 0 else 1:=by
 induction l generalizing k with
 | nil=>simp at hk
 | cons b l ih =>
  cases k with
  | zero=>cases b<;>simp
  | succ k =>
   have:=ih k (by simpa using hk);rw[List.set_cons_succ,Yy,Yy,this,List.getElem_cons_succ];omega
theorem anY (n:Nat) (vis:List Int):xQ n vis<=n:=by
 have:=Xu (a:=true) (l:=mF n vis);rw[AA]at this;exact this
theorem ahl:∀(l:List Bool),l.count true=l.length↔∀b∈l,b=true
 | []=>by simp
 | b::l=>by
  have h1:=ahl l;have h2:=Xu (a:=true) (l:=l);cases b
  ·simp;omega
  ·simp only[List.count_cons_self,Yv,ZU,forall_eq_or_imp,Wh];rw[<-h1];omega
theorem anZ (n:Nat) (vis:List Int):decide ((xQ n vis:Int)=n)=(List.range n).all λw:Nat=>vis.contains (w:Int):=by
 rw[YK,ZF,Z7];have:=ahl (mF n vis);rw[AA]at this;constructor
 ·intro h x hx;exact this.1 (by unfold xQ at h;omega) _ (by unfold mF;exact List.mem_map_of_mem hx)
 ·intro h;have h2:=this.2 (λb hb=>by
   obtain⟨x,hx,rfl⟩:=ZM.1 hb;exact h x hx)
  unfold xQ;omega
theorem abY (n:Int) (l:List Int) (z:Int):iL n (l++[z])=(iL n l&&inB z 0 (n-1)):=by simp[iL]
structure uF (w0 w:World) (gb kb sb cb sg:Nat) (n:Nat) (vis:List Int):Prop where
 bel:Below w0.heap.size w0 w
 lo:w0.heap.size<=kb/\w0.heap.size<=cb/\w0.heap.size<=sg
 ne:kb≠cb/\kb≠sg/\cb≠sg
 gne:gb≠kb/\gb≠cb/\gb≠sg
 sne:sb≠kb/\sb≠cb/\sb≠sg
 g:w.cell? ⟨gb,0,none⟩=some (.int .i64 (n:Int))
 good:Bk w kb 4 #[.bool (iL n vis)]
 seen:w.cell? ⟨sb,0,none⟩=some (.slice (some ⟨sg,0,none⟩) n n)
 row:w.ownsRow w0.heap.size 4 1 (.slice (some ⟨sg,0,none⟩) n n) n ((mF n vis).flatMap nN)
 cnt:Bk w cb 3 #[.int .i64 (xQ n vis:Int)]
theorem uF.keep {w0 w w':World} {gb kb sb cb sg n:Nat} {vis:List Int} (h:uF w0 w gb kb sb cb sg n vis) (hb:Below w.heap.size w w'):uF w0 w' gb kb sb cb sg n vis :=
 ⟨h.bel.trans (hb.mono h.bel.size),h.lo,h.ne,h.gne,h.sne,aK hb h.g,h.good.keep hb,aK hb h.seen,jL hb h.row,h.cnt.keep hb⟩
theorem uF.out {w0 w:World} {gb kb sb cb sg n:Nat} {vis:List Int} (h:uF w0 w gb kb sb cb sg n vis) (z:Int) (hz:inB z 0 ((n:Int)-1)=false):uF w0 (w.setCell ⟨kb,0,none⟩ (.bool false)) gb kb sb cb sg n (vis++[z]):=by
 have hz2:¬(0<=z/\z<n):=by intro⟨h1,h2⟩;simp[inB]at hz;omega
 obtain⟨h1,h2,h3,h4,h5,h6,h7,h8,h9,h10⟩:=h;refine⟨h1.setCell h2.1 _,h2,h3,h4,h5,?_,?_,?_,?_,?_⟩
 ·rw[YQ _ ⟨kb,0,none⟩ ⟨gb,0,none⟩ _ (by simp<;>omega)];exact h6
 ·rw[abY,hz,Vj];exact h7.set 0 _
 ·rw[YQ _ ⟨kb,0,none⟩ ⟨sb,0,none⟩ _ (by simp<;>omega)];exact h8
 ·rw[ahk n vis z hz2];exact eP h9 _ _ (by simp[Value.ownBlock];exact λe=>h3.2.1 e.symm)
 ·unfold xQ;rw[ahk n vis z hz2];exact h10.other _ _ (λe=>h3.1 e.symm)
theorem uF.again {w0 w:World} {gb kb sb cb sg n:Nat} {vis:List Int} (h:uF w0 w gb kb sb cb sg n vis) (k:Nat) (hk:k<n) (hs:vis.contains (k:Int)=true):uF w0 w gb kb sb cb sg n (vis++[(k:Int)]):=by
 have bV:inB (k:Int) 0 ((n:Int)-1)=true:=by simp[inB];omega
 have ahm:mF n (vis++[(k:Int)])=mF n vis:=by
  rw[OZ n vis k hk];apply YT
  ·simp
  ·intro i h1 h2;rw[XP];split
   ·rename_i e;subst e;rw[JM];exact hs.symm
   ·rfl
 obtain⟨h1,h2,h3,h4,h5,h6,h7,h8,h9,h10⟩:=h;refine⟨h1,h2,h3,h4,h5,h6,?_,h8,?_,?_⟩
 ·rw[abY,bV,Bool.and_true];exact h7
 ·rw[ahm];exact h9
 ·unfold xQ;rw[ahm];exact h10
theorem uF.new {w0 w:World} {gb kb sb cb sg n:Nat} {vis:List Int} (h:uF w0 w gb kb sb cb sg n vis) (k:Nat) (hk:k<n) (hs:vis.contains (k:Int)=false) :
  uF w0 ((w.setCell ⟨sg,k,none⟩ (.bool true)).setCell ⟨cb,0,none⟩ (.int .i64 ((xQ n vis:Int)+1))) gb kb sb cb sg n (vis++[(k:Int)]):=by
 have bV:inB (k:Int) 0 ((n:Int)-1)=true:=by simp[inB];omega
 have hc:xQ n (vis++[(k:Int)])=xQ n vis+1:=by
  unfold xQ;rw[OZ n vis k hk,count_set _ k (by rw[AA];exact hk),JM,hs];simp
 obtain⟨h1,h2,h3,h4,h5,h6,h7,h8,h9,h10⟩:=h;refine⟨(h1.setCell h2.2.2 _).setCell h2.2.1 _,h2,h3,h4,h5,?_,?_,?_,?_,?_⟩
 ·rw[YQ _ ⟨cb,0,none⟩ ⟨gb,0,none⟩ _ (by simp<;>omega),YQ _ ⟨sg,k,none⟩ ⟨gb,0,none⟩ _ (by simp<;>omega)];exact h6
 ·rw[abY,bV,Bool.and_true];exact(h7.other _ _ h3.2.1).other _ _ h3.1
 ·rw[YQ _ ⟨cb,0,none⟩ ⟨sb,0,none⟩ _ (by simp<;>omega),YQ _ ⟨sg,k,none⟩ ⟨sb,0,none⟩ _ (by simp<;>omega)];exact h8
 ·rw[OZ n vis k hk];refine eP ?_ _ _ (by simp[Value.ownBlock];exact λe=>h3.2.2 e.symm);exact Ap Es h9 k 0 k (by rw[AA];exact hk) (by omega) (by omega) (.bool true) true rfl
 ·rw[hc];have:=(h10.other ⟨sg,k,none⟩ (.bool true) h3.2.2).set 0 (.int .i64 ((xQ n vis:Int)+1));exact this
def TSn (kb sg cb:Nat):Nat->Prop:=λj=>j=kb\/j=sg\/j=cb
theorem visit_any (v:Value) (zs:List Int) (w0 w:World) (gb kb sb cb sg n:Nat) (vis:List Int) (hv:aU w0 v zs) (hn:n<=100) (hz:zs.length<=1048576) (h:uF w0 w gb kb sb cb sg n vis) :
  Calls Tryz.prog 123 #[v,.pointer (some ⟨gb,0,none⟩),.pointer (some ⟨kb,0,none⟩),.pointer (some ⟨sb,0,none⟩),.pointer (some ⟨cb,0,none⟩)] w λe w'=>e=.returned (.tuple #[])/\uF w0 w' gb kb sb cb sg n (vis++zs)/\aC (TSn kb sg cb) w w':=by
 obtain⟨a,cap,rfl,hc,hat⟩:=hv;go_enter Tryz.func123,Tryz.ntmps123;go_wp2;go_loopw [10] (λi wr=>∃k:Nat,k<=zs.length/\i=.int .i64 k/\uF w0 wr gb kb sb cb sg n (vis++zs.take k)/\aC (TSn kb sg cb) w wr) (λi _=>zs.length-(intOf i).toNat)
 case atStart=>exact⟨0,Zw _,rfl,by simpa using h,aC.refl _ _⟩
 case round =>
  obtain⟨k,hk,rfl,hst,hex⟩:=hrel;clear h;by_cases hlt:k<zs.length
  ·obtain⟨b,o,rfl,_,c0⟩:=hat k hlt;rw[Z2]at c0;replace c0:=aK hst.bel c0;obtain⟨z,hzz⟩:∃z,zs[k]=z:=⟨_,rfl⟩
   have tH:vis++zs.take (k+1)=(vis++zs.take k)++[z]:=by rw[Zv hlt,hzz,Zz]
   rw[hzz]at c0;have HT:=Za tH;obtain⟨iK,fK,zK⟩:=hst.good.cell;obtain⟨iC,fC,zC⟩:=hst.cnt.cell;have cg:=hst.g;have zg:=cell_lt cg;have cs:=hst.seen;have zs':=cell_lt cs;have bz:=cell_lt c0;have k0:=iK 0;have d0:=iC 0;simp at k0 d0;clear hat hzz tH iK iC;have w1:IntKind.i64.wrap ((n:Int)-1)=(n:Int)-1:=Z8 _ (by omega);cases bV:inB z 0 ((n:Int)-1)with
   | false =>
    have lK:=Za bV;have dK:=hst.out z bV;clear bV;go_wp2_with (go_at_call 70;refine(rG _ _ _ _).mono ?_;rintro r w2⟨rfl,rfl⟩;rw[lK.out])
    go_roundw
    case rel=>exact⟨k+1,by omega,by go_num,by rw[HT.out];exact dK,bF hex (.inr (.inl rfl)) _⟩
    case measure=>simp[intOf];omega
   | true =>
    have hz2:0<=z/\z<n:=by simp[inB]at bV;omega
    obtain⟨m,rfl⟩:∃m:Nat,z=m:=⟨z.toNat,by omega⟩
    have rO:m<n:=by omega
    have lK:=Za bV;clear bV hz2;have hrow:=hst.row;have s0:=mV Es hrow m 0 (by rw[AA];exact rO) (by omega);rw[JM]at s0;have f0:=hrow.frozenAt m;simp only[nN,Z2,YC,Zc]at s0;have zg2:=cell_lt s0;have iQ:=anY n (vis++zs.take k);have w2:IntKind.i64.wrap ((xQ n (vis++zs.take k):Int)+1)=(xQ n (vis++zs.take k):Int)+1:=Z8 _ (by omega);cases hs:(vis++zs.take k).contains (m:Int)with
    | true =>
     rw[hs]at s0;have dK:=hst.again m rO hs;clear hs hrow;go_wp2_with (go_at_call 70;refine(rG _ _ _ _).mono ?_;rintro r w2⟨rfl,rfl⟩;rw[lK.out])
     go_roundw
     case rel=>exact⟨k+1,by omega,by go_num,by rw[HT.out];exact dK,hex⟩
     case measure=>simp[intOf];omega
    | false =>
     rw[hs]at s0;have dK:=hst.new m rO hs;have hne:=hst.ne;have hcs:¬cb=sg:=hne.2.2;have hsc:¬sg=cb:=λe=>hne.2.2 e.symm;clear hs hrow hne;go_wp2_with (go_at_call 70;refine(rG _ _ _ _).mono ?_;rintro r w2⟨rfl,rfl⟩;rw[lK.out])
     go_roundw
     case rel=>exact⟨k+1,by omega,by go_num,by rw[HT.out];exact dK,bF (bF hex (.inr (.inr (.inl rfl))) _) (.inr (.inr (.inr rfl))) _⟩
     case measure=>simp[intOf];omega
  ·obtain rfl:k=zs.length:=by omega
   rw[ZY]at hst;go_wp2;exact XV (v:=.tuple #[]) (by simp[results,Tryz.results123,go_sem]) rfl ⟨rfl,hst,hex⟩
theorem aC.an0 {T:Nat->Prop} {w0 w w':World} (hE:aC T w w') (hT:∀j,T j->w0.heap.size<=j) (hb:Below w0.heap.size w0 w):Below w0.heap.size w0 w' :=
 hb.trans ⟨hE.os,hE.tape,hE.output,hE.size,λk hk=>hE.block k (Yc hk hb.size) (λht=>by have:=hT k ht;omega)⟩
theorem uF.ahn {w0 w:World} {gb kb sb cb sg n:Nat} {vis:List Int} (h:uF w0 w gb kb sb cb sg n vis) (b:Nat) (hb:w.heap.size<=b):¬TSn kb sg cb b:=by
 have h1:=h.good.lt;have h2:=h.cnt.lt;have h3:=(Zh h.row sg (by simp[Value.ownBlock])).2;rintro(rfl|rfl|rfl)<;>omega
theorem an1 (z:Int) (ve vi vo:Value) (g:aF) (w0 w:World) (gb kb sb cb sg n:Nat) (hR:dM w0 ve vi vo g) (aP:nJ g) (hn:n<=100) (h:uF w0 w gb kb sb cb sg n []) :
  Calls Tryz.prog 122 #[.agg #[.int .i64 z,ve,vi,vo],(.func (.func 123) #[] #[.pointer (some ⟨gb,0,none⟩),.pointer (some ⟨kb,0,none⟩),.pointer (some ⟨sb,0,none⟩),.pointer (some ⟨cb,0,none⟩)])] w λe w'=>e=.returned (.tuple #[])/\uF w0 w' gb kb sb cb sg n g.places:=by
 obtain⟨⟨ae,ce,rfl⟩,⟨ai,ci,rfl⟩,ao,co,rfl⟩:=hR.slices;have hpl:g.places=(g.aj++g.ay)++g.ah.flatMap λe=>e.aj++e.ay:=by unfold aF.places;rw[Zz]
 have nP:=Za hpl;clear hpl;go_enter Tryz.func122,Tryz.ntmps122;go_wp2_with fail
 have kI:=Bk.new w 33 #[.int .i64 z,.slice ae g.ah.length ce,.slice ai g.aj.length ci,.slice ao g.ay.length co];have B_:=h.ahn w.heap.size (Zj _);have hs0:=h.keep (aH w (.cells #[.int .i64 z,.slice ae g.ah.length ce,.slice ai g.aj.length ci,.slice ao g.ay.length co] 33));clear h;generalize(w.alloc (.cells #[.int .i64 z,.slice ae g.ah.length ce,.slice ai g.aj.length ci,.slice ao g.ay.length co] 33))=u0 at *;refine(visit_any _ g.aj w0 _ gb kb sb cb sg n [] hR.inn hn aP.inn hs0).mono ?_;rintro r u1⟨rfl,hs1,hx1⟩;rw[YW]at hs1;replace kI:=kI.exc hx1 B_;obtain⟨iI,-,zI⟩:=kI.cell;clear hx1 hs0;go_wp2_with fail
 refine(visit_any _ g.ay w0 _ gb kb sb cb sg n g.aj hR.out hn aP.out hs1).mono ?_;clear iI zI;rintro r u2⟨rfl,hs2,hx2⟩;replace kI:=kI.exc hx2 B_;obtain⟨iI,-,zI⟩:=kI.cell;clear hx2 hs1;go_wp2_with fail
 clear iI zI kI B_;obtain⟨pe,JO,he,hce,hat⟩:=hR.ed;simp only[Zx]at he;obtain⟨rfl,-,rfl⟩:=he;have Cb:=aP.ed;go_loopw [17] (λi wr=>∃k:Nat,k<=g.ah.length/\i=.int .i64 k/\uF w0 wr gb kb sb cb sg n ((g.aj++g.ay)++(g.ah.take k).flatMap λe=>e.aj++e.ay)) (λi _=>g.ah.length-(intOf i).toNat)
 case atStart=>exact⟨0,Zw _,rfl,by simpa using hs2⟩
 case round =>
  clear hs2;obtain⟨k,hk,rfl,hst⟩:=hrel;by_cases hlt:k<g.ah.length
  ·obtain⟨b,o,rfl,_,dI⟩:=hat k hlt;obtain⟨c0,c1,x1,x2,c2,c3,nR,AB⟩:=dI.keep hst.bel;obtain⟨d0,d1,y1,y2,d2,d3,hi,ho⟩:=dI;obtain rfl:x1=y1:=by have:=aK hst.bel d2;rw[c2]at this;exact Zy this
   obtain rfl:x2=y2:=by have:=aK hst.bel d3;rw[c3]at this;exact Zy this
   obtain⟨a1,q1,rfl⟩:=hi.slice;obtain⟨a2,q2,rfl⟩:=ho.slice;have bz:=cell_lt c0;have aak:=aP.xO _ (Zp hlt);have tH:(g.ah.take (k+1)).flatMap (λe=>e.aj++e.ay)=(g.ah.take k).flatMap (λe=>e.aj++e.ay)++(g.ah[k].aj++g.ah[k].ay):=by
    rw[Zv hlt,ZL];simp
   have HT:=Za tH;clear tH hat d0 d1 d2 d3 nR AB;go_wp2_with fail
   have kI:=Bk.new wr 102 #[.int .i64 g.ah[k].kind,.int .i64 g.ah[k].value,.slice a1 g.ah[k].aj.length q1,.slice a2 g.ah[k].ay.length q2];have B_:=hst.ahn wr.heap.size (Zj _);have hs0:=hst.keep (aH wr (.cells #[.int .i64 g.ah[k].kind,.int .i64 g.ah[k].value,.slice a1 g.ah[k].aj.length q1,.slice a2 g.ah[k].ay.length q2] 102));clear hst c0 c1 c2 c3 bz;generalize(wr.alloc (.cells #[.int .i64 g.ah[k].kind,.int .i64 g.ah[k].value,.slice a1 g.ah[k].aj.length q1,.slice a2 g.ah[k].ay.length q2] 102))=u3 at *;refine(visit_any _ g.ah[k].aj w0 _ gb kb sb cb sg n _ hi hn aak.inn hs0).mono ?_;rintro r u4⟨rfl,hs1,hx1⟩;replace kI:=kI.exc hx1 B_;obtain⟨iI,-,zI⟩:=kI.cell;clear hx1 hs0;go_wp2_with fail
   refine(visit_any _ g.ah[k].ay w0 _ gb kb sb cb sg n _ ho hn aak.out hs1).mono ?_;clear iI zI;rintro r u5⟨rfl,hs2,hx2⟩;clear hx2 hs1 kI;go_wp2_with fail
   go_roundw
   case rel=>exact⟨k+1,by omega,by go_num,by rw[HT.out];simpa[Zz]using hs2⟩
   case measure=>simp[intOf];omega
  ·obtain rfl:k=g.ah.length:=by omega
   rw[ZY,<-nP.out]at hst;go_wp2;exact XV (v:=.tuple #[]) (by simp[results,Tryz.results122,go_sem]) rfl ⟨rfl,hst⟩
theorem aal:(Tryz.prog.info? 4).map (λi=>(i.zero,i.size,i.bytes))=some (some (.bool false),1,1):=by kernel_rfl
theorem an2 {g:aF} (h:¬(inB g.aB 0 100=true/\g.ah.length<=60/\g.aj.length<=12/\g.ay.length<=12)):aY g=false:=by
 unfold aY Ej;rw[Bool.and_eq_false_imp];intro h2;simp only[Zu,ZF]at h2;exact absurd ⟨h2.1,h2.2.1,h2.2.2.1,h2.2.2.2⟩ h
theorem an4 {g:aF} {k:Nat} (hk:k<g.ah.length) (h:qB g.ah[k]=false):aY g=false:=by
 unfold aY;have:g.ah.all qB=false:=X8.2 ⟨_,Zp hk,by simp[h]⟩;rw[this];simp
theorem an5 {g:aF} (h:inB g.aB 0 100=true/\g.ah.length<=60/\g.aj.length<=12/\g.ay.length<=12) (he:∀e∈g.ah,qB e=true):aY g=(iL g.aB g.places&&Du g):=by
 unfold aY Ej;rw[h.1,Yn h.2.1,Yn h.2.2.1,Yn h.2.2.2,Z7.2 he];rfl
theorem aam {e:aO} (h:qB e=true):e.aj.length<=2/\e.ay.length<=2:=by
 unfold qB at h;simp only[Zu,ZF]at h;have h2:(fJ e.kind).1<=2/\(fJ e.kind).2<=2:=by
  unfold fJ;repeat' split
  all_goals simp
 rw[h.2.2]at h2;simp only at h2;omega
theorem aan (ve vi vo:Value) (g:aF) (w:World) (hR:dM w ve vi vo g) (aP:nJ g) :
  Calls Tryz.prog 86 #[.agg #[.int .i64 g.aB,ve,vi,vo]] w (nH (aY g) w):=by
 obtain⟨⟨ae,ce,rfl⟩,⟨ai,ci,rfl⟩,ao,co,rfl⟩:=hR.slices;have hA:=aH w (.cells #[.int .i64 g.aB,.slice ae g.ah.length ce,.slice ai g.aj.length ci,.slice ao g.ay.length co] 33);by_cases jM:inB g.aB 0 100=true/\g.ah.length<=60/\g.aj.length<=12/\g.ay.length<=12
 ·have h1:=jM.1;have n0:0<=g.aB/\g.aB<=100:=by simpa[inB]using h1
  have n2:¬(60:Int)<g.ah.length:=by omega
  have n3:¬(12:Int)<g.aj.length:=by omega
  have n4:¬(12:Int)<g.ay.length:=by omega
  obtain⟨n,hn⟩:∃n:Nat,g.aB=n:=⟨g.aB.toNat,by omega⟩
  have HF:=Za (Zb h1 WK);have MR:=Za jM;have HN:=Za (Zb hn n0);clear h1 jM hn n0;go_enter Tryz.func86,Tryz.ntmps86;go_wp2_with (go_at_call 70;refine(rG _ _ _ _).mono ?_;rintro r w2⟨rfl,rfl⟩;rw[HF.out.1])
  have kG:=Bk.new w 33 #[.int .i64 g.aB,.slice ae g.ah.length ce,.slice ai g.aj.length ci,.slice ao g.ay.length co];generalize(w.alloc (.cells #[.int .i64 g.aB,.slice ae g.ah.length ce,.slice ai g.aj.length ci,.slice ao g.ay.length co] 33))=u0 at *;clear n2 n3 n4;obtain⟨pe,JO,he,hce,hat⟩:=hR.ed;simp only[Zx]at he;obtain⟨rfl,-,rfl⟩:=he;go_loopw [33] (λi wr=>∃k:Nat,k<=g.ah.length/\i=.int .i64 k/\Below u0.heap.size u0 wr/\∀j,∀h:j<g.ah.length,j<k->qB (g.ah[j]'h)=true) (λi _=>g.ah.length-(intOf i).toNat)
  case atStart=>exact⟨0,Zw _,rfl,Zl _ _,λj h1 h2=>by omega⟩
  case round =>
   obtain⟨k,hk,rfl,hbr,hall⟩:=hrel;have jO:=Za hall;clear hall;by_cases hlt:k<g.ah.length
   ·obtain⟨b,o,rfl,_,dI⟩:=hat k hlt;have dF:=hA.trans (hbr.mono hA.size);obtain⟨c0,c1,x1,x2,c2,c3,hi,ho⟩:=dI.keep dF;obtain⟨a1,q1,rfl⟩:=hi.slice;obtain⟨a2,q2,rfl⟩:=ho.slice;have bz:=cell_lt c0;have aZ:=aH wr (.cells #[.int .i64 g.ah[k].kind,.int .i64 g.ah[k].value,.slice a1 g.ah[k].aj.length q1,.slice a2 g.ah[k].ay.length q2] 102);have hE:=anA g.ah[k] _ _ _ (hi.keep aZ) (ho.keep aZ);cases dL:qB g.ah[k]with
    | false =>
     have hG:=an4 hlt dL;have HG:=Za hG;rw[dL]at hE;have HE:=Za hE;clear hE dL hG hat dI;go_wp2_with (go_at_call 121;refine HE.out.mono ?_;rintro r w3⟨rfl,hb3⟩)
     go_ret;exact⟨by rw[HG.out];rfl,dF.trans ((aZ.trans (hb3.mono aZ.size)).mono dF.size)⟩
    | true =>
     have AL:=Za dL;rw[dL]at hE;have HE:=Za hE;clear hE dL hat dI;go_wp2_with (go_at_call 121;refine HE.out.mono ?_;rintro r w3⟨rfl,hb3⟩)
     go_roundw
     case rel=>exact⟨k+1,by omega,by go_num,hbr.trans ((aZ.trans (hb3.mono aZ.size)).mono hbr.size),λj h1 h2=>by
      rcases Yj j k with h|h
      ·exact jO.out j h1 h
      ·obtain rfl:j=k:=by omega
       exact AL.out⟩
     case measure=>simp[intOf];omega
   ·obtain rfl:k=g.ah.length:=by omega
    replace kG:=kG.keep hbr;obtain⟨iG,-,zG⟩:=kG.cell;have dF:=hA.trans (hbr.mono hA.size);clear hat hA hbr;replace jO:∀e∈g.ah,qB e=true:=λe he=>by
     obtain⟨j,hj,rfl⟩:=Yl.1 he;exact jO.out j hj hj
    have Et:=an5 MR.out jO;have hall:((xQ n g.places:Int)==(n:Int))=Du g:=by
     have h1:=anZ n g.places;unfold Du;rw[show g.aB.toNat=n by have:=HN.out.1;omega,<-h1];by_cases hh:(xQ n g.places:Int)=n
     ·simp[hh]
     ·simp[hh]
    rw[HN.out.1]at Et;have HR:=Za (Zb Et hall);clear jO Et hall iG zG;have SG:Bk wr w.heap.size 33 #[.int .i64 (n:Int),.slice ae g.ah.length ce,.slice ai g.aj.length ci,.slice ao g.ay.length co]:=by rw[<-HN.out.1];exact kG
    clear kG;obtain⟨iG,-,zG⟩:=SG.cell;have qY:w.heap.size<wr.heap.size:=zG;have aeb:n<=100:=by have:=HN.out;omega
    obtain⟨i0,hi,hz0,hz1,hz2⟩:=Yg aal;go_wp2_with (at_make;refine Yo _ rfl _ _ _ rfl w.heap.size 4 i0 _ 1 Tryz.underlying149 hi hz0 hz1 _ _ _ _ n rfl rfl rfl rfl (by rw[hz2];omega) (by unfold maxLen;omega) (by omega) ?_;intro x1 hown hgr;have yY:Below wr.heap.size wr x1:=(Zl _ _).grown hgr (Zj _) (by simp);replace SG:=SG.keep yY;clear iG zG;obtain⟨iG,-,zG⟩:=SG.cell;have zG1:w.heap.size<x1.heap.size+1:=(by omega);have zG2:w.heap.size<x1.heap.size+1+1:=(by omega);have zn0:¬w.heap.size=x1.heap.size:=(by omega);have zn1:¬w.heap.size=x1.heap.size+1:=(by omega);have zn2:¬w.heap.size=x1.heap.size+1+1:=(by omega))
    have hsg:wr.heap.size<x1.heap.size:=(hown.lt wr.heap.size rfl).2;have FX:=vZ (f:=nN) false n (sz:=1) (by omega) rfl;have hrow:x1.ownsRow w.heap.size 4 1 (.slice (some ⟨wr.heap.size,0,none⟩) n n) n ((mF n []).flatMap nN):=by rw[SE,<-FX];exact hown
    have mG:xQ n []=0:=by unfold xQ;rw[SE];simp[List.count_replicate]
    have aS:Below w.heap.size w (((x1.alloc (.cells #[.slice (some ⟨wr.heap.size,0,none⟩) n n] 149)).alloc (.cells #[.bool true] 4)).alloc (.cells #[.int .i64 0] 3)):=(((dF.trans (yY.mono dF.size)).alloc (by have:=dF.size;omega) _).alloc (by have:=dF.size;simp;omega) _).alloc (by have:=dF.size;simp;omega) _;have kS:=((Bk.new x1 149 #[.slice (some ⟨wr.heap.size,0,none⟩) n n]).alloc (.cells #[.bool true] 4)).alloc (.cells #[.int .i64 0] 3);have kK:=(Bk.new (x1.alloc (.cells #[.slice (some ⟨wr.heap.size,0,none⟩) n n] 149)) 4 #[.bool true]).alloc (.cells #[.int .i64 0] 3);have kC:=Bk.new ((x1.alloc (.cells #[.slice (some ⟨wr.heap.size,0,none⟩) n n] 149)).alloc (.cells #[.bool true] 4)) 3 #[.int .i64 0];have kG3:=((SG.alloc (.cells #[.slice (some ⟨wr.heap.size,0,none⟩) n n] 149)).alloc (.cells #[.bool true] 4)).alloc (.cells #[.int .i64 0] 3);have hrow3:=jL (aH _ (.cells #[.int .i64 0] 3)) (jL (aH _ (.cells #[.bool true] 4)) (jL (aH x1 (.cells #[.slice (some ⟨wr.heap.size,0,none⟩) n n] 149)) hrow));simp only[Zn]at kK kC;generalize(((x1.alloc (.cells #[.slice (some ⟨wr.heap.size,0,none⟩) n n] 149)).alloc (.cells #[.bool true] 4)).alloc (.cells #[.int .i64 0] 3))=x2 at *;have hst:uF w x2 w.heap.size (x1.heap.size+1) x1.heap.size (x1.heap.size+1+1) wr.heap.size n []:=by
     refine⟨aS,⟨by omega,by omega,by omega⟩,⟨by omega,by omega,by omega⟩,⟨by omega,by omega,by omega⟩,⟨by omega,by omega,by omega⟩,kG3.cell.1 0,kK,kS.cell.1 0,hrow3,?_⟩;rw[mG];exact kC
    clear kS kK kC hrow3 hrow hown hgr FX mG yY;refine(an1 _ _ _ _ g w _ _ _ _ _ _ n hR aP aeb hst).mono ?_;rintro r x3⟨rfl,hs3⟩;clear hst SG kG3 iG zG zG1 zG2 zn0 zn1 zn2 hsg;obtain⟨iK,-,zK⟩:=hs3.good.cell;obtain⟨iC,-,zC⟩:=hs3.cnt.cell;have cg:=hs3.g;have zg:=cell_lt cg;have hb3:=hs3.bel;have hR2:=HR.out.2;cases hgd:iL (n:Int) g.places with
    | false =>
     rw[hgd]at iK;have HX:=Za hgd;clear hgd hs3 hR2;go_wp2;go_ret;exact⟨by rw[HR.out.1,HX.out];rfl,hb3⟩
    | true =>
     rw[hgd]at iK;have HX:=Za hgd;clear hgd hs3;go_wp2;go_ret;exact⟨by rw[HR.out.1,HX.out,XW,<-HR.out.2];rfl,hb3⟩
 ·have hG:=an2 jM;have HG:=Za hG;cases h1:inB g.aB 0 100 with
  | false =>
   have HF:=Za (Zb h1 WK);clear h1 jM hG;go_enter Tryz.func86,Tryz.ntmps86;go_wp2_with (go_at_call 70;refine(rG _ _ _ _).mono ?_;rintro r w2⟨rfl,rfl⟩;rw[HF.out.1])
   go_ret;exact⟨by rw[HG.out];rfl,hA⟩
  | true =>
   have HF:=Za (Zb h1 WK);by_cases h2:g.ah.length<=60
   ·have n2:¬(60:Int)<g.ah.length:=by omega
    by_cases h3:g.aj.length<=12
    ·have n3:¬(12:Int)<g.aj.length:=by omega
     have n4:(12:Int)<g.ay.length:=by
      rcases Yj 12 g.ay.length with h|h
      ·omega
      ·exact absurd ⟨h1,h2,h3,h⟩ jM
     clear h1 jM hG h2 h3;go_enter Tryz.func86,Tryz.ntmps86;go_wp2_with (go_at_call 70;refine(rG _ _ _ _).mono ?_;rintro r w2⟨rfl,rfl⟩;rw[HF.out.1])
     go_ret;exact⟨by rw[HG.out];rfl,hA⟩
    ·have n3:(12:Int)<g.aj.length:=by omega
     clear h1 jM hG h2 h3;go_enter Tryz.func86,Tryz.ntmps86;go_wp2_with (go_at_call 70;refine(rG _ _ _ _).mono ?_;rintro r w2⟨rfl,rfl⟩;rw[HF.out.1])
     go_ret;exact⟨by rw[HG.out];rfl,hA⟩
   ·have n2:(60:Int)<g.ah.length:=by omega
    clear h1 jM hG h2;go_enter Tryz.func86,Tryz.ntmps86;go_wp2_with (go_at_call 70;refine(rG _ _ _ _).mono ?_;rintro r w2⟨rfl,rfl⟩;rw[HF.out.1])
    go_ret;exact⟨by rw[HG.out];rfl,hA⟩
end Go.Proofs.YtkhpobekconobaaGreat
