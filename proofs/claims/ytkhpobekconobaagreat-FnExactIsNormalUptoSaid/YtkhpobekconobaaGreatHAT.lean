import Derived.Test.YtkhpobekconobaaGreatHAS
import Derived.Deep.AppendSrc
import Derived.Deep.Upon
set_option linter.all false
set_option maxRecDepth 100000
set_option maxHeartbeats 0
namespace Go.Proofs.YtkhpobekconobaaGreat
open Go.RowKit
theorem Rw.setAt {w:World} {B g c n:Nat} {l:List Int} (h:Rw w B (.slice (some ⟨g,0,none⟩) n c) l) (hl:l.length=n) {k:Nat} (hk:k<n) (z:Int) :
  (w.cell? ⟨g,k,none⟩=some (.int .i64 (l[k]'(by omega)))/\w.frozen? ⟨g,k,none⟩=false)/\Rw (w.setCell ⟨g,k,none⟩ (.int .i64 z)) B (.slice (some ⟨g,0,none⟩) n c) (l.set k z):=by
 have e1:(l.set k z).take k++l.drop k=l:=by rw[XT (Zj _),Yr]
 have e2:(l.set k z).take (k+1)++l.drop (k+1)=l.set k z:=by
  have:l.drop (k+1)=(l.set k z).drop (k+1):=by rw[Vo (by omega)]
  rw[this,Yr]
 have h2:=Rw.fill (xs:=l.set k z) (ys:=l) (k:=k) (by rw[e1];exact h) (by rw[Yf];exact hl) hl hk;rw[e2,Wb]at h2;exact h2
theorem ints_at {w:World} {a:Option Addr} {n c:Nat} {zs:List Int} (h:aU w (.slice a n c) zs) {i:Nat} (hi:i<zs.length):∃b o,a=some ⟨b,o,none⟩/\w.cell? ⟨b,o+i,none⟩=some (.int .i64 zs[i]):=by
 obtain⟨a',c',e,hc,hat⟩:=h;simp only[Zx]at e;obtain⟨rfl,_,rfl⟩:=e;obtain⟨b,o,h1,_,h2⟩:=hat i hi;exact⟨b,o,h1,by simpa using h2⟩
def FrP (pj:aO->List Int) (E:List aO) (W:Nat) (w:World) (e:Ending) (w':World):Prop:=∃a c fl,e=.returned (.slice a W c)/\Iz pj E W fl/\Rw w' w.heap.size (.slice a W c) fl/\Below w.heap.size w w'
structure EJ (w wr:World) (n:Nat) (cs:Array Value) (g:Nat) (S:List (Int×Nat)):Prop where
 kg:Bk wr w.heap.size 33 cs
 row:∃fl,I9 n S fl/\Rw wr w.heap.size (.slice (some ⟨g,0,none⟩) n n) fl
 bel:Below w.heap.size w wr
 gB:w.heap.size<g
theorem EJ.keep {w wr w':World} {n:Nat} {cs:Array Value} {g:Nat} {S:List (Int×Nat)} (h:EJ w wr n cs g S) (hb:Below wr.heap.size wr w'):EJ w w' n cs g S :=
 ⟨h.kg.keep hb,by obtain⟨fl,h1,h2⟩:=h.row;exact⟨fl,h1,h2.keep hb⟩,h.bel.trans (hb.mono h.bel.size),h.gB⟩
theorem EJ.put {w wr:World} {n:Nat} {cs:Array Value} {g:Nat} {S:List (Int×Nat)} (h:EJ w wr n cs g S) {m e:Nat} (hm:m<n) (hr:∀p∈S,0<=p.1) (hn:¬(m:Int)∈S.map Prod.fst) :
  (∃old,wr.cell? ⟨g,m,none⟩=some (.int .i64 old))/\wr.frozen? ⟨g,m,none⟩=false/\EJ w (wr.setCell ⟨g,m,none⟩ (.int .i64 (e:Int))) n cs g (S++[((m:Int),e)]):=by
 obtain⟨fl,h1,h2⟩:=h.row;obtain⟨⟨d0,f0⟩,cZ⟩:=Rw.setAt h2 h1.len hm (e:Int);exact⟨⟨_,d0⟩,f0,h.kg.other _ _ (by have:=h.gB;simp;omega),⟨_,h1.put hm hr hn,cZ⟩,h.bel.setCell (by have:=h.gB;simp;omega) _,h.gB⟩
theorem ajn (n:Nat) (ve vi vo:Value) (E:List aO) (w:World) (hE:oM w ve E) (hn:n<=1000) (hlE:E.length<=1000) (dI:(E.flatMap aO.ay).Nodup) (hrg:∀e∈E,∀u∈e.ay,0<=u/\u<(n:Int)) (aP:∀e∈E,e.aj.length<=1000/\e.ay.length<=1000) :
  Calls Tryz.prog 149 #[.agg #[.int .i64 n,ve,vi,vo]] w (FrP aO.ay E n w):=by
 obtain⟨a,cap,rfl,hc,hat⟩:=hE;obtain⟨i0,hi,hz0,hz1,hz2⟩:=Yg yV;have hA:=aH w (.cells #[.int .i64 n,.slice a E.length cap,vi,vo] 33);have kG:=Bk.new w 33 #[.int .i64 n,.slice a E.length cap,vi,vo];go_enter Tryz.func149,Tryz.ntmps149;go_wp2_with (at_make;refine Yo _ rfl _ _ _ rfl (w.heap.size+1) 3 i0 _ 1 Tryz.underlying23 hi hz0 hz1 _ _ _ _ n rfl rfl rfl rfl (by rw[hz2];omega) (by unfold maxLen;omega) (by simp) ?_;intro w1 hown hgr)
 simp only[Zn]at hown hgr;have hz:=vZ (f:=gU) (0:Int) n (sz:=1) (by omega) rfl;have hb:Below (w.alloc (.cells #[.int .i64 n,.slice a E.length cap,vi,vo] 33)).heap.size (w.alloc (.cells #[.int .i64 n,.slice a E.length cap,vi,vo] 33)) w1:=(Zl _ _).grown hgr (Zj _) (by simp);have hr:Rw w1 (w.heap.size+1) (.slice (some ⟨w.heap.size+1,0,none⟩) n n) (List.replicate n 0):=by
  unfold Rw;rw[Yi,<-hz];exact hown
 have hB:=hA.trans (hb.mono hA.size);replace kG:=kG.keep hb;clear hown hgr hi hz0 hz1 hz2 hz hA hb;have aff:=Za hat
 have HND:=Za dI;have yO:=Za hrg;clear hat dI hrg;go_loopw [14] (λi wr=>∃k:Nat,k<=n/\i=.int .i64 k/\Rw wr (w.heap.size+1) (.slice (some ⟨w.heap.size+1,0,none⟩) n n) ((List.replicate n (-1:Int)).take k++(List.replicate n (0:Int)).drop k)/\Below w.heap.size w wr/\Bk wr w.heap.size 33 #[.int .i64 n,.slice a E.length cap,vi,vo]) (λi _=>n-(intOf i).toNat)
 case atStart=>exact⟨0,Zw _,rfl,by simpa using hr,hB,kG⟩
 case round =>
  clear hr hB kG;obtain⟨k,hk,rfl,hrow,aI,kG⟩:=hrel;by_cases hlt:k<n
  ·obtain⟨g,c',e,hg,wK⟩:=hrow.block (by simp;omega);simp only[Zx,ZQ,Xm,WG]at e;obtain⟨rfl,-,rfl⟩:=e;obtain⟨⟨d0,f0⟩,cZ⟩:=hrow.fill (by simp) (by simp) hlt;rw[Z9]at cZ;rw[Z9]at d0;have HS:=Za (Zb cZ (kG.other ⟨w.heap.size+1,k,none⟩ (.int .i64 (-1)) (by simp)));clear hrow cZ kG;go_wp2;go_roundw
   case rel=>exact⟨k+1,by omega,by go_num,HS.out.1,aI.setCell (by simp) _,HS.out.2⟩
   case measure=>simp[intOf];omega
  ·obtain rfl:k=n:=by omega
   have hst:EJ w wr k #[.int .i64 k,.slice a E.length cap,vi,vo] (w.heap.size+1) (t_ aO.ay E 0):=⟨kG,⟨_,I9.start k,(hrow.full (by simp) (by simp)).mono (by omega)⟩,aI,by omega⟩
   generalize Ko:wr=wo at *;obtain⟨x0,-,xz⟩:=hst.kg.cell;have x1:=x0 1;simp only[Ze,Zc,Zd]at x1;clear Ko hrow kG aI x0;go_wp2_with fail
   clear x1 xz;go_loopw [24] (λi wr=>∃j:Nat,j<=E.length/\i=.int .i64 j/\EJ w wr k #[.int .i64 k,.slice a E.length cap,vi,vo] (w.heap.size+1) (t_ aO.ay E j)) (λi _=>E.length-(intOf i).toNat)
   case atStart=>exact⟨0,Zw _,rfl,hst⟩
   case round =>
    clear hst;obtain⟨j,hj,rfl,hst⟩:=hrel;by_cases oW:j<E.length
    ·obtain⟨b,o,rfl,_,dL⟩:=aff.out j oW;have KI:=aP _ (Zp oW);have sQ:=yO.out _ (Zp oW);have hgd:E.getD j bQ=E[j]:=by rw[Zg,Zi oW];rfl
     have KJ:=λi (hi:i<(aO.ay (E.getD j bQ)).length)=>ajm (pj:=aO.ay) HND.out oW hi;have xu:=aaU aO.ay E j;have Bd:∀p∈t_ aO.ay E E.length,0<=p.1:=λp hp=>by
      obtain⟨e,h1,h2⟩:=Z6.1 hp;obtain⟨u,h3,rfl⟩:=ZM.1 h2;exact(yO.out _ (pF (ZW.1 h1)) u h3).1
     have TF:∀p∈t_ aO.ay E j,0<=p.1:=λp hp=>Bd p ((afe aO.ay E hj).subset hp);rw[hgd]at KJ xu;generalize t_ aO.ay E j=S at *;obtain⟨e,rV⟩:∃e,E[j]=e:=⟨_,rfl⟩
     rw[rV]at dL KI sQ KJ xu;obtain⟨c0,c1,wi,wo2,c2,c3,qH,qJ⟩:=dL;replace c0:=aK hst.bel c0;replace c1:=aK hst.bel c1;replace c2:=aK hst.bel c2;replace c3:=aK hst.bel c3;have bz:=cell_lt c0;obtain⟨ia,ic,rfl⟩:=qH.slice;obtain⟨oa,oc,rfl⟩:=qJ.slice;have aT:=aH wr (.cells #[.int .i64 e.kind,.int .i64 e.value,.slice ia e.aj.length ic,.slice oa e.ay.length oc] 102);have dK:=hst.keep aT;have HL:=Za qJ;have HN:=Za KJ;have HS:=Za xu;have HR:=Za sQ;have HG:=Za TF;clear hst aT qH qJ rV hgd KJ xu Bd TF sQ;go_wp2_with fail
     generalize(wr.alloc (.cells #[.int .i64 e.kind,.int .i64 e.value,.slice ia e.aj.length ic,.slice oa e.ay.length oc] 102))=Wi at dK ⊢;clear c0 c1 c2 c3 bz;go_loopw [32] (λi wr=>∃k2:Nat,k2<=e.ay.length/\i=.int .i64 k2/\EJ w wr k #[.int .i64 k,.slice (some ⟨b,o,none⟩) E.length cap,vi,vo] (w.heap.size+1) (S++(e.ay.take k2).map λu=>(u,j))) (λi _=>e.ay.length-(intOf i).toNat)
     case atStart=>exact⟨0,Zw _,rfl,by simpa using dK⟩
     case round =>
      clear dK;obtain⟨k2,hk2,rfl,hst⟩:=hrel;by_cases KL:k2<e.ay.length
      ·obtain⟨ob,oo,rfl,d0⟩:=ints_at (HL.out.keep hst.bel) KL;have hur:=HR.out _ (Zp KL);have hno:=HN.out k2 KL;have k_:=Zv KL;obtain⟨m,hm⟩:∃m:Nat,e.ay[k2]=m:=⟨(e.ay[k2]).toNat,by omega⟩
       rw[hm]at d0 hur hno k_;have P7:∀p∈S++(e.ay.take k2).map λu=>(u,j),0<=p.1:=λp hp=>by
        rcases Zs.1 hp with hp|hp
        ·exact HG.out p hp
        ·obtain⟨u,hu,rfl⟩:=ZM.1 hp;exact(HR.out u (Y8 hu)).1
       obtain⟨⟨old,hold⟩,gf,kV⟩:=hst.put (e:=j) (by omega:m<k) P7 hno;rw[Zz,show((e.ay.take k2).map λu=>(u,j))++[((m:Int),j)]=(e.ay.take (k2+1)).map (λu=>(u,j))by rw[k_,ZK];rfl]at kV;have EL:=Za kV;have dz:=cell_lt d0;have gz:=cell_lt hold;clear hst kV P7 hno k_ hm;go_wp2;go_roundw
       case rel=>exact⟨k2+1,by omega,by go_num,EL.out⟩
       case measure=>simp[intOf];omega
      ·obtain rfl:k2=e.ay.length:=by omega
       rw[ZY,<-HS.out]at hst;have HF:=Za hst;clear hst;go_wp2;go_roundw
       case rel=>exact⟨j+1,by omega,by go_num,HF.out⟩
       case measure=>simp[intOf];omega
    ·obtain rfl:j=E.length:=by omega
     obtain⟨fl,h1,h2⟩:=hst.row;have HF:=Za (Zb h1.fin (Zb h2 hst.bel));clear hst h1 h2;go_wp2;go_ret;exact⟨_,_,fl,rfl,HF.out.1,HF.out.2.1,HF.out.2.2⟩
theorem ajo (n:Nat) (ve vi vo:Value) (E:List aO) (w:World) (hE:oM w ve E) (hn:n<=1000) (hlE:E.length<=1000) (dI:(E.flatMap aO.aj).Nodup) (hrg:∀e∈E,∀u∈e.aj,0<=u/\u<(n:Int)) (aP:∀e∈E,e.aj.length<=1000/\e.ay.length<=1000) :
  Calls Tryz.prog 150 #[.agg #[.int .i64 n,ve,vi,vo]] w (FrP aO.aj E n w):=by
 obtain⟨a,cap,rfl,hc,hat⟩:=hE;obtain⟨i0,hi,hz0,hz1,hz2⟩:=Yg yV;have hA:=aH w (.cells #[.int .i64 n,.slice a E.length cap,vi,vo] 33);have kG:=Bk.new w 33 #[.int .i64 n,.slice a E.length cap,vi,vo];go_enter Tryz.func150,Tryz.ntmps150;go_wp2_with (at_make;refine Yo _ rfl _ _ _ rfl (w.heap.size+1) 3 i0 _ 1 Tryz.underlying23 hi hz0 hz1 _ _ _ _ n rfl rfl rfl rfl (by rw[hz2];omega) (by unfold maxLen;omega) (by simp) ?_;intro w1 hown hgr)
 simp only[Zn]at hown hgr;have hz:=vZ (f:=gU) (0:Int) n (sz:=1) (by omega) rfl;have hb:Below (w.alloc (.cells #[.int .i64 n,.slice a E.length cap,vi,vo] 33)).heap.size (w.alloc (.cells #[.int .i64 n,.slice a E.length cap,vi,vo] 33)) w1:=(Zl _ _).grown hgr (Zj _) (by simp);have hr:Rw w1 (w.heap.size+1) (.slice (some ⟨w.heap.size+1,0,none⟩) n n) (List.replicate n 0):=by
  unfold Rw;rw[Yi,<-hz];exact hown
 have hB:=hA.trans (hb.mono hA.size);replace kG:=kG.keep hb;clear hown hgr hi hz0 hz1 hz2 hz hA hb;have aff:=Za hat
 have HND:=Za dI;have yO:=Za hrg;clear hat dI hrg;go_loopw [14] (λi wr=>∃k:Nat,k<=n/\i=.int .i64 k/\Rw wr (w.heap.size+1) (.slice (some ⟨w.heap.size+1,0,none⟩) n n) ((List.replicate n (-1:Int)).take k++(List.replicate n (0:Int)).drop k)/\Below w.heap.size w wr/\Bk wr w.heap.size 33 #[.int .i64 n,.slice a E.length cap,vi,vo]) (λi _=>n-(intOf i).toNat)
 case atStart=>exact⟨0,Zw _,rfl,by simpa using hr,hB,kG⟩
 case round =>
  clear hr hB kG;obtain⟨k,hk,rfl,hrow,aI,kG⟩:=hrel;by_cases hlt:k<n
  ·obtain⟨g,c',e,hg,wK⟩:=hrow.block (by simp;omega);simp only[Zx,ZQ,Xm,WG]at e;obtain⟨rfl,-,rfl⟩:=e;obtain⟨⟨d0,f0⟩,cZ⟩:=hrow.fill (by simp) (by simp) hlt;rw[Z9]at cZ;rw[Z9]at d0;have HS:=Za (Zb cZ (kG.other ⟨w.heap.size+1,k,none⟩ (.int .i64 (-1)) (by simp)));clear hrow cZ kG;go_wp2;go_roundw
   case rel=>exact⟨k+1,by omega,by go_num,HS.out.1,aI.setCell (by simp) _,HS.out.2⟩
   case measure=>simp[intOf];omega
  ·obtain rfl:k=n:=by omega
   have hst:EJ w wr k #[.int .i64 k,.slice a E.length cap,vi,vo] (w.heap.size+1) (t_ aO.aj E 0):=⟨kG,⟨_,I9.start k,(hrow.full (by simp) (by simp)).mono (by omega)⟩,aI,by omega⟩
   generalize Ko:wr=wo at *;obtain⟨x0,-,xz⟩:=hst.kg.cell;have x1:=x0 1;simp only[Ze,Zc,Zd]at x1;clear Ko hrow kG aI x0;go_wp2_with fail
   clear x1 xz;go_loopw [24] (λi wr=>∃j:Nat,j<=E.length/\i=.int .i64 j/\EJ w wr k #[.int .i64 k,.slice a E.length cap,vi,vo] (w.heap.size+1) (t_ aO.aj E j)) (λi _=>E.length-(intOf i).toNat)
   case atStart=>exact⟨0,Zw _,rfl,hst⟩
   case round =>
    clear hst;obtain⟨j,hj,rfl,hst⟩:=hrel;by_cases oW:j<E.length
    ·obtain⟨b,o,rfl,_,dL⟩:=aff.out j oW;have KI:=aP _ (Zp oW);have sQ:=yO.out _ (Zp oW);have hgd:E.getD j bQ=E[j]:=by rw[Zg,Zi oW];rfl
     have KJ:=λi (hi:i<(aO.aj (E.getD j bQ)).length)=>ajm (pj:=aO.aj) HND.out oW hi;have xu:=aaU aO.aj E j;have Bd:∀p∈t_ aO.aj E E.length,0<=p.1:=λp hp=>by
      obtain⟨e,h1,h2⟩:=Z6.1 hp;obtain⟨u,h3,rfl⟩:=ZM.1 h2;exact(yO.out _ (pF (ZW.1 h1)) u h3).1
     have TF:∀p∈t_ aO.aj E j,0<=p.1:=λp hp=>Bd p ((afe aO.aj E hj).subset hp);rw[hgd]at KJ xu;generalize t_ aO.aj E j=S at *;obtain⟨e,rV⟩:∃e,E[j]=e:=⟨_,rfl⟩
     rw[rV]at dL KI sQ KJ xu;obtain⟨c0,c1,wi,wo2,c2,c3,qH,qJ⟩:=dL;replace c0:=aK hst.bel c0;replace c1:=aK hst.bel c1;replace c2:=aK hst.bel c2;replace c3:=aK hst.bel c3;have bz:=cell_lt c0;obtain⟨ia,ic,rfl⟩:=qH.slice;obtain⟨oa,oc,rfl⟩:=qJ.slice;have aT:=aH wr (.cells #[.int .i64 e.kind,.int .i64 e.value,.slice ia e.aj.length ic,.slice oa e.ay.length oc] 102);have dK:=hst.keep aT;have HL:=Za qH;have HN:=Za KJ;have HS:=Za xu;have HR:=Za sQ;have HG:=Za TF;clear hst aT qH qJ rV hgd KJ xu Bd TF sQ;go_wp2_with fail
     generalize(wr.alloc (.cells #[.int .i64 e.kind,.int .i64 e.value,.slice ia e.aj.length ic,.slice oa e.ay.length oc] 102))=Wi at dK ⊢;clear c0 c1 c2 c3 bz;go_loopw [32] (λi wr=>∃k2:Nat,k2<=e.aj.length/\i=.int .i64 k2/\EJ w wr k #[.int .i64 k,.slice (some ⟨b,o,none⟩) E.length cap,vi,vo] (w.heap.size+1) (S++(e.aj.take k2).map λu=>(u,j))) (λi _=>e.aj.length-(intOf i).toNat)
     case atStart=>exact⟨0,Zw _,rfl,by simpa using dK⟩
     case round =>
      clear dK;obtain⟨k2,hk2,rfl,hst⟩:=hrel;by_cases KL:k2<e.aj.length
      ·obtain⟨ob,oo,rfl,d0⟩:=ints_at (HL.out.keep hst.bel) KL;have hur:=HR.out _ (Zp KL);have hno:=HN.out k2 KL;have k_:=Zv KL;obtain⟨m,hm⟩:∃m:Nat,e.aj[k2]=m:=⟨(e.aj[k2]).toNat,by omega⟩
       rw[hm]at d0 hur hno k_;have P7:∀p∈S++(e.aj.take k2).map λu=>(u,j),0<=p.1:=λp hp=>by
        rcases Zs.1 hp with hp|hp
        ·exact HG.out p hp
        ·obtain⟨u,hu,rfl⟩:=ZM.1 hp;exact(HR.out u (Y8 hu)).1
       obtain⟨⟨old,hold⟩,gf,kV⟩:=hst.put (e:=j) (by omega:m<k) P7 hno;rw[Zz,show((e.aj.take k2).map λu=>(u,j))++[((m:Int),j)]=(e.aj.take (k2+1)).map (λu=>(u,j))by rw[k_,ZK];rfl]at kV;have EL:=Za kV;have dz:=cell_lt d0;have gz:=cell_lt hold;clear hst kV P7 hno k_ hm;go_wp2;go_roundw
       case rel=>exact⟨k2+1,by omega,by go_num,EL.out⟩
       case measure=>simp[intOf];omega
      ·obtain rfl:k2=e.aj.length:=by omega
       rw[ZY,<-HS.out]at hst;have HF:=Za hst;clear hst;go_wp2;go_roundw
       case rel=>exact⟨j+1,by omega,by go_num,HF.out⟩
       case measure=>simp[intOf];omega
    ·obtain rfl:j=E.length:=by omega
     obtain⟨fl,h1,h2⟩:=hst.row;have HF:=Za (Zb h1.fin (Zb h2 hst.bel));clear hst h1 h2;go_wp2;go_ret;exact⟨_,_,fl,rfl,HF.out.1,HF.out.2.1,HF.out.2.2⟩
def lZ (w:World) (B:Nat) (v:Value) (xs:List Int):Prop :=
 ∃g o cap,v=.slice (some ⟨g,o,none⟩) xs.length cap/\B<=g/\g<w.heap.size/\xs.length<=cap/\cap<=maxLen/\(∀i,i<cap->(w.cell? ⟨g,o+i,none⟩).isSome=true)/\(∀i,w.frozen? ⟨g,i,none⟩=false)/\∀i,∀h:i<xs.length,w.cell? ⟨g,o+i,none⟩=some (.int .i64 xs[i])
theorem lZ.shape {w:World} {B:Nat} {v:Value} {xs:List Int} (h:lZ w B v xs):∃g o c,v=.slice (some ⟨g,o,none⟩) xs.length c:=by obtain⟨g,o,c,e,_⟩:=h;exact⟨g,o,c,e⟩
theorem lZ.lt {w:World} {B:Nat} {v:Value} {xs:List Int} (h:lZ w B v xs):∀j,v.ownBlock=some j->B<=j/\j<w.heap.size:=by
 obtain⟨g,o,c,rfl,h1,h2,_⟩:=h;intro j hj;simp only[Value.ownBlock,ZQ]at hj;omega
theorem lZ.blk {w w':World} {B:Nat} {v:Value} {xs:List Int} (h:lZ w B v xs) (hb:∀j,v.ownBlock=some j->w'.heap[j]?=w.heap[j]?):lZ w' B v xs:=by
 obtain⟨g,o,c,rfl,h1,h2,h3,h4,h5,h6,h7⟩:=h;have hg:=hb g rfl;have hlt:g<w'.heap.size:=by
  rcases Yj g w'.heap.size with h|h
  ·exact h
  ·rw[Array.getElem?_eq_none h,YA h2]at hg;cases hg
 exact⟨g,o,c,rfl,h1,hlt,h3,h4,λi hi=>by rw[XS (w:=w) (a:=⟨g,o+i,none⟩) hg];exact h5 i hi,λi=>by rw[Vd (w:=w) (a:=⟨g,i,none⟩) hg];exact h6 i,λi hi=>by rw[XS (w:=w) (a:=⟨g,o+i,none⟩) hg];exact h7 i hi⟩
theorem lZ.keep {w w':World} {B:Nat} {v:Value} {xs:List Int} (hb:Below w.heap.size w w') (h:lZ w B v xs):lZ w' B v xs:=h.blk λj hj=>hb.block j (h.lt j hj).2
theorem lZ.other {w:World} {B:Nat} {v:Value} {xs:List Int} (h:lZ w B v xs) (a:Addr) (u:Value) (hn:v.ownBlock≠some a.block):lZ (w.setCell a u) B v xs :=
 h.blk λj hj=>Zm _ _ _ _ (λe=>hn (by rw[hj,e]))
theorem lZ.grown {w w':World} {B:Nat} {v:Value} {xs:List Int} {row:Option Nat} (h:lZ w B v xs) (hg:w.grownBy w' row) (hn:∀j,v.ownBlock=some j->row≠some j):lZ w' B v xs :=
 h.blk λj hj=>hg.block j (h.lt j hj).2 (λe=>hn j hj e.symm)
theorem lZ.tail {w:World} {B g o c:Nat} {x:Int} {xs:List Int} (h:lZ w B (.slice (some ⟨g,o,none⟩) (x::xs).length c) (x::xs)):lZ w B (.slice (some ⟨g,o+1,none⟩) xs.length (c-1)) xs/\1<=c/\w.cell? ⟨g,o,none⟩=some (.int .i64 x):=by
 obtain⟨g',o',c',e,h1,h2,h3,h4,h5,h6,h7⟩:=h;simp only[Zx,ZQ,Xm,WG,Wh]at e;obtain⟨⟨rfl,rfl⟩,rfl⟩:=e;simp only[Yv]at h3;refine⟨⟨g,o+1,c-1,rfl,h1,h2,by omega,by omega,λi hi=>?_,h6,λi hi=>?_⟩,by omega,by have:=h7 0 (by simp);rwa [YC]at this⟩
 ·have:=h5 (i+1) (by omega);rwa [show o+(i+1)=o+1+i by omega]at this
 ·have:=h7 (i+1) (by simpa using hi);rw[show o+(i+1)=o+1+i by omega]at this;simpa using this
theorem lZ.one {w:World} {B b:Nat} {x:Int} (h:Bk w b 3 #[.int .i64 x]) (hB:B<=b):lZ w B (.slice (some ⟨b,0,none⟩) 1 1) [x]:=by
 obtain⟨h1,h2,h3⟩:=h.cell;refine⟨b,0,1,rfl,hB,h3,Zj _,by unfold maxLen;omega,λi hi=>?_,h2,λi hi=>?_⟩
 ·obtain rfl:i=0:=by omega
  rw[h1];rfl
 ·obtain rfl:i=0:=by simp at hi;omega
  rw[h1];rfl
def T_ (o c:Nat):Nat:=if c=1 then o else o+1
theorem lZ.ajp {w:World} {B g o c:Nat} {x:Int} {xs:List Int} (h:lZ w B (.slice (some ⟨g,o,none⟩) (x::xs).length c) (x::xs)):lZ w B (.slice (some ⟨g,T_ o c,none⟩) xs.length (c-1)) xs/\xs.length+1<=c/\w.cell? ⟨g,o,none⟩=some (.int .i64 x):=by
 obtain⟨h1,h2,h3⟩:=h.tail;have hle:xs.length+1<=c:=by obtain⟨_,_,_,e,_,_,h3,_⟩:=h;simp only[Zx]at e;simp only[Yv]at h3;omega
 refine⟨?_,hle,h3⟩;unfold T_;by_cases hc:c=1
 ·rw[ZE hc];obtain rfl:xs=[]:=Y4 (by omega);obtain⟨g',o',c',e,b1,b2,b3,b4,b5,b6,b7⟩:=h;simp only[Zx,ZQ,Xm,WG,Wh]at e;obtain⟨⟨rfl,rfl⟩,rfl⟩:=e;exact⟨g,o,c-1,rfl,b1,b2,by simp,by omega,λi hi=>by omega,b6,λi hi=>by simp at hi⟩
 ·rw[ZH hc];exact h1
theorem ajq (g o n c:Nat) (hle:n+1<=c) (w:World):(Instr.slice 23 (.slice (some ⟨g,o,none⟩) (n+1) c) (some (.int .i64 1)) none none).run Tryz.prog w=.ok (.slice (some ⟨g,T_ o c,none⟩) n (c-1)) w:=by
 unfold T_;obtain⟨i0,hi,hz0,hz1,hz2⟩:=Yg yV;have h1:(1:Int)<=(n:Int)+1:=by omega
 have h2:((n+1:Nat):Int)=(n:Int)+1:=by omega
 by_cases hc:c=1
 ·subst hc;obtain rfl:n=0:=by omega
  simp[Instr.slice,Instr.sliceBounds,Instr.sliceBound,asIntOf,Vq Tryz.underlying23,sizeOf,typeInfo,hi,hz1,go_sem]
 ·have hc':¬c=1:=hc;simp[Instr.slice,Instr.sliceBounds,Instr.sliceBound,asIntOf,Vq Tryz.underlying23,sizeOf,typeInfo,hi,hz1,hc',h1,go_sem]
theorem ajr (b:Nat):∀(vs:List Value) (o:Nat) (w:World),(w.setCells b o vs).tape=w.tape
 | [],_,_=>rfl
 | v::r,o,w=>ajr b r (o+1) (w.setCell ⟨b,o,none⟩ v)
theorem setCells_size (b:Nat):∀(vs:List Value) (o:Nat) (w:World),(w.setCells b o vs).heap.size=w.heap.size
 | [],_,_=>rfl
 | v::r,o,w=>by rw[World.setCells,setCells_size b r (o+1)];simp
theorem aqX {w:World} {B:Nat} {v:Value} {xs:List Int} (ty:TypeId) (h:lZ w B v xs) (hB:B<=w.heap.size) (zs:List Int) (x:Value) (hx:aU w x zs) (hl:xs.length+zs.length<=100000) :
  ∃v' w',(Builtin.append_ #[23,23] ty #[v,x]).run Tryz.prog w=.ok v' w'/\lZ w' B v' (xs++zs)/\w.grownBy w' v.ownBlock/\(v'.ownBlock=v.ownBlock\/v'.ownBlock=some w.heap.size):=by
 obtain⟨i0,hi,hz0,hz1,hz2⟩:=Yg yV;obtain⟨g,o,cap,rfl,h1,h2,h3,h4,h5,h6,h7⟩:=h;have w_:∀w',(∀a,w'.cell? a=w.cell? a)->Src Tryz.prog i0.size 23 x zs.length (zs.map (Value.int .i64)) w':=by
  intro w' hw';obtain⟨a,c,rfl,hc,hat⟩:=hx;rw[hz1];cases a with
  | none =>
   by_cases h0:zs.length=0
   ·obtain rfl:zs=[]:=Y4 h0;exact Src.ofNil _ Tryz.underlying23 c
   ·obtain⟨b,o,e,_⟩:=hat 0 (by omega);cases e
  | some ad =>
   refine Src.ofSlice _ Tryz.underlying23 ad zs.length c _ (by simp) (λj u hj=>?_) (λu hu=>by obtain⟨z,_,rfl⟩:=ZM.1 hu;rfl);have uY:j<zs.length:=by
    have:=(Yb.1 hj).1;simpa using this
   obtain⟨b,o,e,_,hcell⟩:=hat j uY;obtain rfl:=Zy e;rw[Z2]at hcell;rw[hw',addr_add,hcell];rw[XJ,Zi uY]at hj;simpa using hj
 by_cases hroom:xs.length+zs.length<=cap
 ·have hr:=run_append_room_src (P:=Tryz.prog) w 23 23 ty 3 i0 Tryz.underlying23 hi g o xs.length cap x zs.length (zs.map (Value.int .i64)) (w_ w λ_=>rfl) hroom
   (λj hj=>by rw[hz1,Z2,Vs];exact h5 _ (by simp at hj;omega)) (λj hj=>h6 _)
  rw[hz1,Z2]at hr;have bV:=World.cell?_setCells_in g (zs.map (Value.int .i64)) (o+xs.length) w (λj hj=>by rw[Vs];exact h5 _ (by simp at hj;omega));refine⟨_,_,hr,⟨g,o,cap,by rw[Zk],h1,by rw[setCells_size];exact h2,by rw[Zk];exact hroom,h4,λi hi=>World.isSome_setCells g _ _ _ _ (h5 i hi),λi=>by rw[World.frozen?_setCells];exact h6 i,λi hi=>?_⟩,⟨World.os_setCells _ _ _ _,ajr _ _ _ _,World.output_setCells _ _ _ _,by rw[setCells_size];exact Zj _,λk hk hne=>World.heap_setCells_other _ _ _ _ hk (λe=>hne (by simp[Value.ownBlock,e]))⟩,.inl rfl⟩;rcases Yj i xs.length with hlt|qW
  ·rw[World.cell?_setCells_out g _ _ _ ⟨g,o+i,none⟩ (λ_ _=>.inl (by simp only;omega)),h7 i hlt,Xx hlt]
  ·have hj:i-xs.length<(zs.map (Value.int .i64)).length:=by simp at hi ⊢;omega
   have:=bV (i-xs.length) hj;rw[show o+xs.length+(i-xs.length)=o+i by omega]at this;rw[this,YY qW,YN]
 ·have hold:(Builtin.firstCells i0.size xs.length (.slice (some ⟨g,o,none⟩) xs.length cap)).run Tryz.prog w.drew=.ok (xs.map (Value.int .i64)).toArray w.drew:=by
   rw[hz1];refine run_firstCells_some w.drew 1 xs.length ⟨g,o,none⟩ xs.length cap (xs.map (Value.int .i64)) (by simp) (λj u hj=>?_);have uY:j<xs.length:=by
    have:=(Yb.1 hj).1;simpa using this
   rw[addr_add];rw[XJ,Zi uY]at hj;have:=h7 j uY;rw[show w.drew.cell? ⟨g,o+j,none⟩=w.cell? ⟨g,o+j,none⟩from rfl,this];simpa using hj
  have hr:=run_append_grow_src (P:=Tryz.prog) w 23 23 ty 3 i0 _ Tryz.underlying23 hi hz0 (some ⟨g,o,none⟩) xs.length cap (xs.map (Value.int .i64)) hold x zs.length (zs.map (Value.int .i64)) (w_ w λ_=>rfl) (by omega) (by omega)
   (growslice_fits (by omega) (by rw[hz2];omega))
  have qW:=grownCap_ge w (xs.length+zs.length) cap 3;have hcm:=grownCap_le_maxLen w (xs.length+zs.length) cap 3 (by unfold maxLen;omega);have hsz:((xs.map (Value.int .i64)++zs.map (Value.int .i64)).toArray++Builtin.zeroCells #[Value.int .i64 0] (grownCap w (xs.length+zs.length) cap 3-(xs.length+zs.length))).size=grownCap w (xs.length+zs.length) cap 3:=by
   rw[Array.size_append,size_zeroCells];simp;omega
  have hcell:∀(cs:Array Value) (j:Nat),(w.drew.alloc (.cells cs 3)).cell? ⟨w.heap.size,j,none⟩=cs[j]?:=λcs j=>(Bk.cell (Bk.new w.drew 3 cs)).1 j;have iP:∀(cs:Array Value) (j:Nat),(w.drew.alloc (.cells cs 3)).frozen? ⟨w.heap.size,j,none⟩=false:=λcs j=>(Bk.cell (Bk.new w.drew 3 cs)).2.1 j;refine⟨_,_,hr,⟨w.heap.size,0,_,by rw[Zk],hB,by simp,by rw[Zk];exact qW,hcm,λi hi=>?_,λi=>iP _ i,λi hi=>?_⟩,⟨rfl,rfl,rfl,by simp,λk hk _=>Below.heap_alloc w.drew _ k hk⟩,.inr rfl⟩
  ·rw[Yp,hcell];rw[YA (by rw[show(Value.cells (.int .i64 0))=#[Value.int .i64 0]from rfl,hsz];exact hi)];rfl
  ·rw[Yp,hcell,Array.getElem?_append_left (by simp at hi ⊢;omega),Ze,<-ZK,XJ,Zi hi];rfl
theorem ac2 {ops:Array Oper} {Q:Exit->Act->World->Prop} {T:Nat->Prop} {w0:World} {i:Nat} {l:List Nat} {bs:Nat->Prop} {a:Act} {w:World} {o:Oper} (ho:ops[i]?=some o) (hk:jW o=.act) (hg:o.guard=none) (hC:aC T w0 w) (s x:Operand)
  (hop:o.op=Op.call { callee:=Callee.builtin Builtin.append,args:=#[s,x],argTypes:=#[23,23] })
  (B:Nat) (v:Value) (xs ys:List Int) (b m c:Nat) (hm:ys.length=m) (hs:a.eval s=v) (hx:a.eval x=.slice (some ⟨b,0,none⟩) m c) (hmc:m<=c)
  (AP:∀k,v.ownBlock=some k->(k<w0.heap.size/\T k)\/(w0.heap.size<=k/\bs k)) (hbase:B<=w.heap.size) (hl:xs.length+m<=100000)
  (hrow:lZ w B v xs) (aW:w.heap[b]?=some (.cells (ys.flatMap gU).toArray 3))
  (h:∀K:(Nat->Prop)->Act->World->Prop,(∀bs a w,WX Tryz.prog ops (aC T w0) w0.heap.size Q l bs a w->K bs a w)->∀w1 w2 v',aC T w0 w1->Below w.heap.size w w1 ->
   lZ w2 B v' (xs++ys)->w1.grownBy w2 v.ownBlock->aC T w0 w2->(v'.ownBlock=v.ownBlock\/v'.ownBlock=some w1.heap.size)->K (more bs w1 w2) (a.put o.dst v') w2) :
  WX Tryz.prog ops (aC T w0) w0.heap.size Q (i::l) bs a w:=by
 subst hm;intro o' iY;rw[ho]at iY;obtain rfl:=Zy iY;unfold qX rM;rw[ZE (by simp[Region.wanted,hg])];simp only[hk];intro w1 dQ;have oO:=hC.below dQ;have hI:aU w1 (.slice (some ⟨b,0,none⟩) ys.length c) ys:=by
  obtain⟨m0,_,_⟩:=made_cell ((dQ.block b (made_cell aW).2.2).trans aW);refine⟨_,_,rfl,hmc,λj hj=>⟨b,0,rfl,hj,?_⟩⟩;rw[Yp,Z2,m0 j,Ze];have:=flat_get sF ys j 0 hj (by omega);simpa[gU]using this
 obtain⟨v',w2,hrun,r1,r2,r4⟩:=aqX o.type (hrow.keep dQ) (ZI hbase dQ.size) ys _ hI hl;have hr:(execOp a.eval o).run Tryz.prog w1=.ok (.value v') w2:=by
  simp[execOp,hop,resolve,invoke,builtin,hs,hx,hrun,Result.andThen]
 unfold rJ;rw[hr];have Dw:aC T w0 w2:=oO.grown r2 (λk hk=>(AP k hk).elim (λh=>.inr h.2) (λh=>.inl h.1));exact⟨Dw,r2.size,λk hN d_ hlt=>r2.block k hlt (λe=>by rcases AP k e.symm with h|h;omega;exact d_ h.2),more bs w1 w2,λ_ h=>.inl h,λ_ h=>h,h _ (λ_ _ _ h=>h) w1 w2 v' oO dQ r1 r2 Dw r4⟩
theorem Ua {ops:Array Oper} {Q:Exit->Act->World->Prop} {T:Nat->Prop} {w0:World} {i:Nat} {l:List Nat} {bs:Nat->Prop} {a:Act} {w:World} {o:Oper} (ho:ops[i]?=some o) (hk:jW o=.act) (hg:o.guard=none) (hC:aC T w0 w) (s x:Operand)
  (hop:o.op=Op.call { callee:=Callee.builtin Builtin.append,args:=#[s,x],argTypes:=#[23,23] })
  (B:Nat) (v u:Value) (xs ys:List Int) (hs:a.eval s=v) (hx:a.eval x=u)
  (AP:∀k,v.ownBlock=some k->(k<w0.heap.size/\T k)\/(w0.heap.size<=k/\bs k)) (hbase:B<=w.heap.size) (hl:xs.length+ys.length<=100000)
  (hrow:Rw w B v xs) (nS:aU w u ys)
  (h:∀K:(Nat->Prop)->Act->World->Prop,(∀bs a w,WX Tryz.prog ops (aC T w0) w0.heap.size Q l bs a w->K bs a w)->∀w1 w2 v',aC T w0 w1->Below w.heap.size w w1 ->
   Rw w2 B v' (xs++ys)->w1.grownBy w2 v.ownBlock->aC T w0 w2->(v'.ownBlock=v.ownBlock\/v'.ownBlock=some w1.heap.size)->K (more bs w1 w2) (a.put o.dst v') w2) :
  WX Tryz.prog ops (aC T w0) w0.heap.size Q (i::l) bs a w:=by
 obtain⟨i0,hi,hz0,hz1,hz2⟩:=Yg yV;refine abZ ho hk hg hC s x 23 hop B 3 i0 _ 1 8 Tryz.underlying23 hi hz0 hz1 hz2 rfl (by decide) v xs.length (xs.flatMap gU) hs AP u ys.length (ys.flatMap gU) hx (ahr ys) (by unfold maxLen;omega) (by omega) hbase (λw1 dQ hb1=>⟨hrow.keep hb1,ahq (nS.keep hb1)⟩) ?_;intro K hK w1 w2 v' dQ hb1 h1 h2 h3 h4;refine h K hK w1 w2 v' dQ hb1 ?_ h2 h3 h4;unfold Rw;rw[Zk,ZL];exact h1
theorem afg (ws:List Int) (ps:List (Nat×Int)) (p:Nat×Int):mY ws (ps++[p])=(mY ws ps).bind λws'=>setW ws' p.1 p.2:=by
 induction ps generalizing ws with
 | nil =>
  simp only[YW,mY,Option.bind_some];cases setW ws p.1 p.2<;>rfl
 | cons q r ih =>
  simp only[Xb,mY];cases setW ws q.1 q.2 with
  | none=>rfl
  | some ws'=>exact ih ws'
theorem ajs (ws:List Int) (ps qs:List (Nat×Int)) (h:mY ws ps=none):mY ws (ps++qs)=none:=by
 induction ps generalizing ws with
 | nil=>simp[mY]at h
 | cons q r ih =>
  simp only[Xb,mY]at h ⊢;cases hs:setW ws q.1 q.2 with
  | none=>rfl
  | some ws'=>rw[hs]at h;exact ih ws' h
theorem aqY {l:List Int} {k:Nat} {v:Int} (h:l.getD k 0=v) (hk:k<l.length):l.set k v=l:=by
 apply YT (by simp);intro i h1 h2;rw[XP];by_cases e:k=i
 ·subst e;rw[ZE rfl,<-h,Zg,Zi hk];rfl
 ·rw[ZH e]
structure KN where
 kind:Int
 a:Int
 b:Int
 value:Int
 deriving DecidableEq
def aqZ (g:KN):Bool:=decide (g.kind=3) || decide (g.kind=4)
def aq0 (g:KN):List Int:=if g.kind=3 then[g.a,g.b]else if g.kind=4\/g.kind=5 then[g.a]else[]
def aq1 (g:KN):List Int:=if aqZ g=true then aq0 g else[]
theorem Ub (v:Value) (zs:List Int) (x:Int) (w:World) (hv:aU w v zs) (hn:zs.length<=1048576) :
  Calls Tryz.prog 114 #[v,.int .i64 x] w λe w'=>e=.returned (.bool (decide (x∈zs)))/\w=w':=by
 obtain⟨a,cap,rfl,hc,hat⟩:=hv;go_enter Tryz.func114,Tryz.ntmps114;go_wp2;go_loopw [9] (λi wr=>∃k:Nat,k<=zs.length/\i=.int .i64 k/\wr=w/\∀j,∀h:j<zs.length,j<k->(zs[j]'h)≠x) (λi _=>zs.length-(intOf i).toNat)
 case atStart=>exact⟨0,Zw _,rfl,by first|rfl|trivial,λj h1 h2=>by omega⟩
 case round =>
  obtain⟨k,hk,rfl,Ko,hall⟩:=hrel;subst Ko;have jO:=Za hall;clear hall;by_cases hlt:k<zs.length
  ·obtain⟨b,o,rfl,_,c0⟩:=hat k hlt;rw[Z2]at c0;have bz:=cell_lt c0;by_cases hb:zs[k]=x
   ·have mJ:decide (x∈zs)=true:=by rw[<-hb];simp
    have HF:=Za mJ;rw[hb]at c0;clear mJ hb hat
    go_wp2;go_ret;exact⟨by rw[HF.out];rfl,rfl⟩
   ·have HB:=Za hb;have hne:(zs[k]==x)=false:=by simp[hb]
    generalize hz:zs[k]=z at c0 hne;clear hb hat hz;go_wp2;go_roundw
    case rel=>exact⟨k+1,by omega,by go_num,by first|rfl|trivial,λj h1 h2=>by
     rcases Yj j k with h|h
     ·exact jO.out j h1 h
     ·obtain rfl:j=k:=by omega
      exact HB.out⟩
    case measure=>simp[intOf];omega
  ·obtain rfl:k=zs.length:=by omega
   have mJ:decide (x∈zs)=false:=by
    simp only[WF];intro hx;obtain⟨j,hj,e⟩:=Yl.1 hx;exact jO.out j hj hj e
   have HF:=Za mJ;clear mJ hat
   go_wp2;go_ret;exact⟨by rw[HF.out];rfl,rfl⟩
theorem ajt (x:Int) (n:Nat) (w:World) (hn:n<=100000):Calls Tryz.prog 90 #[.int .i64 x,.int .i64 n] w (Eu (List.replicate n x) w):=by
 go_enter Tryz.func90,Tryz.ntmps90;go_wp2_with fail
 refine(ab3 n w hn).mono ?_;rintro q w1⟨v,rfl,hr,hb⟩;obtain⟨a,c,rfl⟩:=hr.slice;rw[Yi]at *;go_wp2_with fail
 go_loopw [11] (λi wr=>∃k:Nat,k<=n/\i=.int .i64 k/\Rw wr w.heap.size (.slice a n c) ((List.replicate n x).take k++(List.replicate n (0:Int)).drop k)/\Below w.heap.size w wr) (λi _=>n-(intOf i).toNat)
 case atStart=>exact⟨0,Zw _,rfl,by simpa using hr,hb⟩
 case round =>
  clear hr hb;obtain⟨k,hk,rfl,hrow,aI⟩:=hrel;by_cases hlt:k<n
  ·obtain⟨g,c',e,hg,wK⟩:=hrow.block (by simp;omega);simp only[Zx]at e;obtain⟨rfl,-,rfl⟩:=e;obtain⟨⟨d0,f0⟩,cZ⟩:=hrow.fill (by simp) (by simp) hlt;rw[Z9]at cZ;rw[Z9]at d0;have HS:=Za cZ;clear hrow cZ;go_wp2;go_roundw
   case rel=>exact⟨k+1,by omega,by go_num,HS.out,aI.setCell wK _⟩
   case measure=>simp[intOf];omega
  ·obtain rfl:k=n:=by omega
   have HF:=Za (hrow.full (by simp) (by simp));clear hrow;go_wp2;go_ret;exact⟨_,rfl,HF.out,aI⟩
end Go.Proofs.YtkhpobekconobaaGreat
