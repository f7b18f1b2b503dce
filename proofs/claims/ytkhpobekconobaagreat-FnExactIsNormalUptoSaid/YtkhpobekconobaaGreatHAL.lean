import Derived.Test.YtkhpobekconobaaGreatHAK
import Derived.ProofKit
set_option linter.all false
set_option maxRecDepth 100000
set_option maxHeartbeats 0
namespace Go.Proofs.YtkhpobekconobaaGreat
open Go.RowKit
theorem owns_src {w:World} {B e sz:Nat} {v:Value} {n:Nat} {xs:List Value} (h:w.ownsRow B e sz v n xs):AO w sz v n xs:=by
 refine⟨h.1,?_⟩;have h':=h;rcases h.2 with⟨rfl,rfl⟩|⟨g,cap,cur,rfl,hb,hh,hc,hm,hs,ht⟩
 ·exact .inl ⟨rfl,0,rfl⟩
 ·refine .inr ⟨_,_,rfl,λj u hj=>?_⟩;have hl:j<xs.length:=(Yb.1 hj).1;rw[addr_add,Yp,h'.cellAt j (by rw[<-h.1];exact hl),hj]
theorem aja {w:World} {v u:Value} {L M:List aO} {B B':Nat} (h:mW w B v L) (h':mW w B' u M) {ops:Array Oper} {rest:List Oper} {o:Oper} {a:Act} {Q:Exit->Act->World->Prop} (hgd:o.guard=none) (s x:Operand)
  (ho:o.op=.call { callee:=.builtin .append,args:=#[s,x],argTypes:=#[31,31] })
  (hs:a.eval s=v) (hx:a.eval x=u) (hBB:B<=B') (hB:B<=w.heap.size) (hl:L.length+M.length<=100000)
  (H:∀v' w',mW w' B v' (L++M)->w.grownBy w' v.ownBlock->(v'.ownBlock=v.ownBlock\/v'.ownBlock=some w.heap.size)->wpList Tryz.prog ops Q rest (a.put o.dst v') w'):wpList Tryz.prog ops Q (o::rest) a w:=by
 obtain⟨i0,hi,hz0,hz1,hz2⟩:=Yg aea;obtain⟨xs,rfl,h1,h2⟩:=h;obtain⟨ys,rfl,h3,h4⟩:=h';rw[ZG,ZG]at hl;have hx1:mO w B v xs:=⟨h1,h2⟩
 have hy1:zo w B ys:=zo.mono hBB h4;refine JQ hgd s x 31 ho B 102 i0 _ 4 64 Tryz.underlying31 hi hz0 hz1 hz2 rfl (by decide) v xs.length _ hs h1 u ys.length _ hx (owns_src h3) (ah4 hy1) (by unfold maxLen;omega) (by omega) hB ?_;intro v' w' r1 r2 r3;refine H v' w' ?_ r2 r3;have:=(hx1.app hy1 r1 r2).o;rwa [ZK]at this
theorem mW.shape {w:World} {B:Nat} {v:Value} {L:List aO} (h:mW w B v L):∃a cap,v=.slice a L.length cap:=by
 obtain⟨xs,rfl,h1,h2⟩:=h;obtain⟨a,c,e⟩:=mO.shape ⟨h1,h2⟩;exact⟨a,c,by rw[e,ZG]⟩
theorem mW.setB {w:World} {B b:Nat} {v:Value} {L:List aO} {t:TypeId} {cs:Array Value} (h:mW w B v L) (kb:Bk w b t cs) (h1:102≠t) (h2:3≠t) (j:Nat) (u:Value):mW (w.setCell ⟨b,j,none⟩ u) B v L:=by
 obtain⟨xs,rfl,h3,h4⟩:=h;exact(mO.setB ⟨h3,h4⟩ kb h1 h2 j u).o
theorem Rw.setB {w:World} {B b:Nat} {v:Value} {l:List Int} {t:TypeId} {cs:Array Value} (h:Rw w B v l) (kb:Bk w b t cs) (h2:3≠t) (j:Nat) (u:Value):Rw (w.setCell ⟨b,j,none⟩ u) B v l:=eP h _ _ (cO h kb h2)
theorem dB.setB {w:World} {B b:Nat} {ve vi vo:Value} {g:aF} {t:TypeId} {cs:Array Value} (h:dB w B ve vi vo g) (kb:Bk w b t cs) (h1:102≠t) (h2:3≠t) (j:Nat) (u:Value):dB (w.setCell ⟨b,j,none⟩ u) B ve vi vo g :=
 ⟨h.ed.setB kb h1 h2 j u,h.inn.setB kb h2 j u,h.out.setB kb h2 j u⟩
theorem aaS {w w':World} {B e sz n:Nat} {v:Value} {xs:List Value} {row:Option Nat} (h:w.ownsRow B e sz v n xs) (hg:w.grownBy w' row) (hr:∀k,v.ownBlock=some k->row≠some k):w'.ownsRow B e sz v n xs:=by
 refine⟨h.1,?_⟩;rcases h.2 with hn|⟨g,cap,cur,rfl,wu,jF,rest⟩
 ·exact .inl hn
 ·exact .inr ⟨g,cap,cur,rfl,wu,(hg.block g (ZP.1 jF).1 (λe=>hr g rfl e.symm)).trans jF,rest⟩
theorem mW.grown {w w':World} {B:Nat} {v r:Value} {L:List aO} (h:mW w B v L) (hg:w.grownBy w' r.ownBlock) {B2 n:Nat} {zs:List Value} (hr:w.ownsRow B2 3 1 r n zs) (hlt:∀j,r.ownBlock=some j->j<B):mW w' B v L:=by
 obtain⟨xs,rfl,h3,h4⟩:=h;have mv:∀(u:Value) l,Rw w B u l->Rw w' B u l:=λu l hu=>hu.grown hg λk hk e=>by
  have:=(Zh hu k hk).1;have:=hlt k e;omega
 exact⟨xs,rfl,aaS h3 hg (λk hk e=>wC h3 hr (by decide) k hk e),λx hx=>⟨mv _ _ (h4 x hx).1,mv _ _ (h4 x hx).2⟩⟩
theorem pickL_up (n:Nat) (l:List Int) (h:Po (dW n) l):aG (dW n) l=l:=by
 unfold aG;rw[YZ (g:=id),Vg];intro k hk;obtain⟨h1,h2⟩:=h k hk;obtain⟨m,rfl⟩:∃m:Nat,k=m:=⟨k.toNat,by omega⟩
 rw[oh]at h2;have hm:m<(dW n).length:=by rw[oh];omega
 rw[Zr,Zg,Zi hm,ab4];rfl
theorem aqE (g:aF) (n:Nat) (h:Po (dW n) g.places) (hg:g.aB=n):mZ g n (dW n)=g:=by
 obtain⟨zk,rH,AY⟩:=aaA (g:=g);obtain⟨W,E,I,O⟩:=g;subst hg;unfold mZ;rw[pickL_up n _ λk hk=>h k (zk k hk),pickL_up n _ λk hk=>h k (rH k hk)];congr 1;show E.map _=E;rw[YZ (g:=id),Vg];intro e he;obtain⟨i,hi,rfl⟩:=List.getElem_of_mem he;unfold jm;rw[pickL_up n _ λk hk=>h k ((AY i hi).1 k hk),pickL_up n _ λk hk=>h k ((AY i hi).2 k hk)];rfl
theorem aem.q {g:aF} {w w':World} {e:Ending} (h:aem g w e w'):∃a1 c1 a2 c2 a3 c3,e=.returned (.agg #[.int .i64 g.aB,.slice a1 g.ah.length c1,.slice a2 g.aj.length c2,.slice a3 g.ay.length c3]) /\
  AX w' w.heap.size (.slice a1 g.ah.length c1) (.slice a2 g.aj.length c2) (.slice a3 g.ay.length c3) g/\Below w.heap.size w w':=by
 obtain⟨v1,v2,v3,rfl,h1,h2⟩:=h;obtain⟨⟨x1,y1,rfl⟩,⟨x2,y2,rfl⟩,x3,y3,rfl⟩:=h1.o.at.slices;exact⟨x1,y1,x2,y2,x3,y3,rfl,h1,h2⟩
theorem nZ.q {g:aF} {w w':World} {e:Ending} (h:nZ g w e w'):∃a1 c1 a2 c2 a3 c3,e=.returned (.agg #[.int .i64 g.aB,.slice a1 g.ah.length c1,.slice a2 g.aj.length c2,.slice a3 g.ay.length c3]) /\
  dB w' w.heap.size (.slice a1 g.ah.length c1) (.slice a2 g.aj.length c2) (.slice a3 g.ay.length c3) g/\Below w.heap.size w w':=by
 obtain⟨v1,v2,v3,rfl,h1,h2⟩:=h;obtain⟨⟨x1,y1,rfl⟩,⟨x2,y2,rfl⟩,x3,y3,rfl⟩:=h1.at.slices;exact⟨x1,y1,x2,y2,x3,y3,rfl,h1,h2⟩
theorem aem.k {g:aF} {w w':World} {e:Ending} (h:aem g w e w'):nZ g w e w':=by
 obtain⟨v1,v2,v3,rfl,h1,h2⟩:=h;exact⟨v1,v2,v3,rfl,h1.o,h2⟩
theorem awz (W:Nat) (E:List aO) (I O:List Int) (ve vi vo:Value) (w:World) (hR:dM w ve vi vo ⟨W,E,I,O⟩) (hn:W<=1000) (aP:Tf ⟨W,E,I,O⟩) (bV:Po (dW W) (aF.places ⟨W,E,I,O⟩)) :
  Calls Tryz.prog 68 #[.agg #[.int .i64 W,ve,vi,vo]] w (aem ⟨W,E,I,O⟩ w):=by
 obtain⟨ae,ce,rfl⟩:=hR.ed.slice;obtain⟨ai,ci,rfl⟩:=hR.inn.slice;obtain⟨ao,co,rfl⟩:=hR.out.slice;obtain⟨i0,hi,hz0,hz1,hz2⟩:=Yg yV;dsimp only at hR ⊢;have aQ:=aH w (.cells #[.int .i64 W,.slice ae E.length ce,.slice ai I.length ci,.slice ao O.length co] 33);have aT:=aH (w.alloc (.cells #[.int .i64 W,.slice ae E.length ce,.slice ai I.length ci,.slice ao O.length co] 33)) (.cells #[.int .i64 0,.slice none 0 0,.slice none 0 0,.slice none 0 0] 33);have hB:=aQ.trans (aT.mono aQ.size);have kG:=(Bk.new w 33 #[.int .i64 W,.slice ae E.length ce,.slice ai I.length ci,.slice ao O.length co]).keep aT;have kR:=Bk.new (w.alloc (.cells #[.int .i64 W,.slice ae E.length ce,.slice ai I.length ci,.slice ao O.length co] 33)) 33 #[.int .i64 0,.slice none 0 0,.slice none 0 0,.slice none 0 0];simp only[Zn]at kR;clear aQ aT;obtain⟨u0,Nq⟩:∃u,u=((w.alloc (.cells #[.int .i64 W,.slice ae E.length ce,.slice ai I.length ci,.slice ao O.length co] 33)).alloc (.cells #[.int .i64 0,.slice none 0 0,.slice none 0 0,.slice none 0 0] 33)):=⟨_,rfl⟩
 rw[<-Nq]at hB kG kR;go_enter Tryz.func68,Tryz.ntmps68;go_wp2_with (at_make;refine Yo _ rfl _ _ _ rfl (w.heap.size+2) 3 i0 _ 1 Tryz.underlying23 hi hz0 hz1 _ _ _ _ W rfl rfl rfl rfl (by rw[hz2];omega) (by unfold maxLen;omega) (by simp) ?_;intro w1 hown hgr)
 rw[<-Nq]at hgr;have hsz:u0.heap.size=w.heap.size+2:=by rw[Nq];simp
 clear Nq;have hz:=vZ (f:=gU) (0:Int) W (sz:=1) (by omega) rfl;have hb1:Below u0.heap.size u0 w1:=(Zl _ _).grown hgr (Zj _) (by simp);have hr1:Rw w1 u0.heap.size (.slice (some ⟨u0.heap.size,0,none⟩) W W) (List.replicate W 0):=by
  unfold Rw;rw[Yi,<-hz,hsz];simp only[Zn]at hown;exact hown
 rw[hsz]at hr1;have HR1:=Za hr1;have PX:=Za hsz;clear hz hown hgr hi hz0 hz1 hz2 hr1 hsz;go_loopw [10] (λi wr=>∃k:Nat,k<=W/\i=.int .i64 k/\Rw wr (w.heap.size+2) (.slice (some ⟨w.heap.size+2,0,none⟩) W W) ((dW W).take k++(List.replicate W (0:Int)).drop k)/\Below u0.heap.size u0 wr) (λi _=>W-(intOf i).toNat)
 case atStart=>exact⟨0,Zw _,rfl,by simpa using HR1.out,hb1⟩
 case round =>
  clear HR1 hb1;obtain⟨k,hk,rfl,hrow,aI⟩:=hrel;by_cases hlt:k<W
  ·obtain⟨⟨d0,f0⟩,cZ⟩:=hrow.fill (oh W) (by simp) hlt;rw[ab4]at cZ;rw[Z9]at d0;have HS:=Za cZ;have qW:u0.heap.size<=w.heap.size+2:=by have:=PX.out;omega
   have Ku:=Za qW;clear hrow cZ qW;go_wp2;go_roundw
   case rel=>exact⟨k+1,by omega,by go_num,HS.out,aI.setCell Ku.out _⟩
   case measure=>simp[intOf];omega
  ·obtain rfl:k=W:=by omega
   have HF:=Za (hrow.full (oh _) (by simp));clear hrow;have b_:=hB.trans (aI.mono hB.size);replace kG:=kG.keep aI;replace kR:=kR.keep aI;obtain⟨iG,fG,zG⟩:=kG.cell;obtain⟨iR,fR,zR⟩:=kR.cell;have hC:=aib ⟨k,E,I,O⟩ _ _ _ _ (dW k) k wr (hR.keep b_) aP HF.out.at (by rw[oh];exact hn) bV;rw[aqE _ k bV rfl]at hC;have HC:=Za hC;clear hC;go_wp2_with fail
   refine HC.out.mono ?_;intro q w2 hq;obtain⟨x1,y1,x2,y2,x3,y3,rfl,hg2,hb2⟩:=hq.q;clear hq;dsimp only at hg2 ⊢;have hBw2:=b_.trans (hb2.mono b_.size);replace kR:=kR.keep hb2;have eU:w.heap.size+1<wr.heap.size:=zR;have HG:=Za hg2;clear iR fR zR iG fG zG kG hg2;obtain⟨iR,fR,zR⟩:=kR.cell;go_wp2;refine Zt (v:=.agg #[.int .i64 k,.slice x1 E.length y1,.slice x2 I.length y2,.slice x3 O.length y3]) (by simp[results,Tryz.results68,go_sem,iR]) rfl ⟨_,_,_,rfl,?_,?_⟩
   ·exact(((((HG.out).low (a:=⟨w.heap.size+1,0,none⟩) eU _).low (a:=⟨w.heap.size+1,1,none⟩) eU _).low (a:=⟨w.heap.size+1,2,none⟩) eU _).low (a:=⟨w.heap.size+1,3,none⟩) eU _).mono b_.size
   ·exact(((hBw2.setCell (by simp) _).setCell (by simp) _).setCell (by simp) _).setCell (by simp) _
structure Bg (g:aF) (n:Nat):Prop where
 le:n<=1000
 ok:Tf g
 rng:∀k∈g.places,0<=k/\k<(n:Int)
 cnt:g.iM.length<=1000000/\g.iZ.length<=1000000
theorem Bg.up {g:aF} {n:Nat} (h:Bg g n):Po (dW n) g.places:=λk hk=>by rw[oh];exact h.rng k hk
theorem Bg.from {g:aF} {n:Nat} (h:Bg g n) (a:Nat):Po (bY a n) g.places:=λk hk=>by rw[rP];exact h.rng k hk
def PI (A B:Nat) (E E':List aO) (I I' O O':List Int):aF:=⟨((A+B:Nat):Int),E++E'.map (jm (bY A B)),I++aG (bY A B) I',O++aG (bY A B) O'⟩
structure BsSt (w0 w:World) (B D b7 b8 bR:Nat) (c7 c8:Int) (e i o e' i' o':Value) (E:List aO) (I O:List Int) (E':List aO) (I' O':List Int):Prop where
 k7:Bk w b7 33 #[.int .i64 c7,e,i,o]
 k8:Bk w b8 33 #[.int .i64 c8,e',i',o']
 kR:Bk w bR 33 #[.int .i64 0,.slice none 0 0,.slice none 0 0,.slice none 0 0]
 ed:mW w D e E
 inn:Rw w B i I
 out:Rw w B o O
 ed':mW w D e' E'
 inn':Rw w D i' I'
 out':Rw w D o' O'
 bel:Below w0.heap.size w0 w
 lo:w0.heap.size<=B
 lo7:w0.heap.size<=b7
 ne8:b8≠b7
 neR:bR≠b7
 ho:∀j,o.ownBlock=some j->j<D
theorem BsSt.inn1 {w0 w w':World} {B D b7 b8 bR:Nat} {c7 c8:Int} {e i o e' i' o' v:Value} {E:List aO} {I O:List Int} {E':List aO} {I' O' L:List Int} (h:BsSt w0 w B D b7 b8 bR c7 c8 e i o e' i' o' E I O E' I' O')
  (hi:∀j,i.ownBlock=some j->j<D) (ap:Apart i o) (hr:Rw w' B v L) (hg:w.grownBy w' i.ownBlock) (hv:v.ownBlock=i.ownBlock\/v.ownBlock=some w.heap.size) :
  Bk w' b7 33 #[.int .i64 c7,e,i,o]/\Bk w' b8 33 #[.int .i64 c8,e',i',o']/\Apart v o/\BsSt w0 (w'.setCell ⟨b7,2,none⟩ v) B D b7 b8 bR c7 c8 e v o e' i' o' E L O E' I' O':=by
 have k7:=h.k7.grown hg (cO h.inn h.k7 (by decide));have k8:=h.k8.grown hg (cO h.inn h.k8 (by decide));have kR:=h.kR.grown hg (cO h.inn h.kR (by decide));have mv:∀(u:Value) l,Rw w D u l->Rw w' D u l:=λu l hu=>hu.grown hg λk hk e=>by
  have:=(Zh hu k hk).1;have:=hi k e;omega
 have ho:=h.out.grown hg λk hk e=>ap k e hk;refine⟨k7,k8,λk hk eH=>?_,⟨k7.set 2 v,k8.other _ _ h.ne8,kR.other _ _ h.neR,(h.ed.grown hg h.inn hi).setB k7 (by decide) (by decide) 2 v,hr.setB k7 (by decide) 2 v,ho.setB k7 (by decide) 2 v,(h.ed'.grown hg h.inn hi).setB k7 (by decide) (by decide) 2 v,(mv _ _ h.inn').setB k7 (by decide) 2 v,(mv _ _ h.out').setB k7 (by decide) 2 v,?_,h.lo,h.lo7,h.ne8,h.neR,h.ho⟩⟩
 ·rcases hv with hv|hv
  ·rw[hv]at hk;exact ap k hk eH
  ·rw[hv]at hk;have:=(Zh h.out k eH).2;simp at hk;omega
 ·exact(h.bel.grown hg h.bel.size (λj hj=>ZI h.lo (Zh h.inn j hj).1)).setCell h.lo7 _
theorem BsSt.out1 {w0 w w':World} {B D b7 b8 bR:Nat} {c7 c8:Int} {e i o e' i' o' v:Value} {E:List aO} {I O:List Int} {E':List aO} {I' O' L:List Int} (h:BsSt w0 w B D b7 b8 bR c7 c8 e i o e' i' o' E I O E' I' O')
  (ap:Apart i o) (hr:Rw w' B v L) (hg:w.grownBy w' o.ownBlock) :
  Bk w' b7 33 #[.int .i64 c7,e,i,o]/\Bk w' b8 33 #[.int .i64 c8,e',i',o']/\Bk (w'.setCell ⟨b7,3,none⟩ v) b7 33 #[.int .i64 c7,e,i,v]/\Bk (w'.setCell ⟨b7,3,none⟩ v) b8 33 #[.int .i64 c8,e',i',o']/\Bk (w'.setCell ⟨b7,3,none⟩ v) bR 33 #[.int .i64 0,.slice none 0 0,.slice none 0 0,.slice none 0 0] /\
   mW (w'.setCell ⟨b7,3,none⟩ v) D e E/\mW (w'.setCell ⟨b7,3,none⟩ v) D e' E'/\Rw (w'.setCell ⟨b7,3,none⟩ v) B i I/\Rw (w'.setCell ⟨b7,3,none⟩ v) B v L/\Below w0.heap.size w0 (w'.setCell ⟨b7,3,none⟩ v):=by
 have k7:=h.k7.grown hg (cO h.out h.k7 (by decide));have k8:=h.k8.grown hg (cO h.out h.k8 (by decide));have kR:=h.kR.grown hg (cO h.out h.kR (by decide));have hi:=h.inn.grown hg λk hk e=>ap k hk e;exact⟨k7,k8,k7.set 3 v,k8.other _ _ h.ne8,kR.other _ _ h.neR,(h.ed.grown hg h.out h.ho).setB k7 (by decide) (by decide) 3 v,(h.ed'.grown hg h.out h.ho).setB k7 (by decide) (by decide) 3 v,hi.setB k7 (by decide) 3 v,hr.setB k7 (by decide) 3 v,
  (h.bel.grown hg h.bel.size (λj hj=>ZI h.lo (Zh h.out j hj).1)).setCell h.lo7 _⟩
theorem mW.ne {w:World} {B b:Nat} {v:Value} {L:List aO} {t:TypeId} {cs:Array Value} (h:mW w B v L) (kb:Bk w b t cs) (he:102≠t):v.ownBlock≠some b:=by
 obtain⟨xs,rfl,h1,h2⟩:=h;exact cO h1 kb he
theorem Rw.ath {w w':World} {B D:Nat} {u v:Value} {l:List Int} {L:List aO} (hu:Rw w B u l) (h:mW w D v L) (hg:w.grownBy w' v.ownBlock):Rw w' B u l:=by
 obtain⟨xs,rfl,h1,h2⟩:=h;exact hu.grown hg λk hk e=>wC hu h1 (by decide) k hk e
theorem mW.lo {w:World} {D:Nat} {v:Value} {L:List aO} (h:mW w D v L):∀j,v.ownBlock=some j->D<=j:=by
 obtain⟨xs,rfl,h1,h2⟩:=h;exact λj hj=>(Zh h1 j hj).1
structure BsFin (w0 w:World) (B:Nat) (e i o:Value) (E:List aO) (I O:List Int):Prop where
 ed:mW w B e E
 inn:Rw w B i I
 out:Rw w B o O
 bel:Below w0.heap.size w0 w
theorem awj (A B:Nat) (E E':List aO) (I I' O O':List Int) (ve vi vo ve' lJ ig:Value) (w:World) (hR:dM w ve vi vo ⟨A,E,I,O⟩) (qx:dM w ve' lJ ig ⟨B,E',I',O'⟩) (hA:Bg ⟨A,E,I,O⟩ A) (yI:Bg ⟨B,E',I',O'⟩ B) :
  Calls Tryz.prog 147 #[.agg #[.int .i64 A,ve,vi,vo],.agg #[.int .i64 B,ve',lJ,ig]] w (nZ (PI A B E E' I I' O O') w):=by
 obtain⟨ae,ce,rfl⟩:=hR.ed.slice;obtain⟨ai,ci,rfl⟩:=hR.inn.slice;obtain⟨ao,co,rfl⟩:=hR.out.slice;obtain⟨pJ,pK,rfl⟩:=qx.ed.slice;obtain⟨pO,ci',rfl⟩:=qx.inn.slice;obtain⟨ao',pR,rfl⟩:=qx.out.slice;obtain⟨i0,hi,hz0,hz1,hz2⟩:=Yg yV;dsimp only at hR qx ⊢;have aT:=hA.le;have aZ:=yI.le;have aQ:=aH w (.cells #[.int .i64 A,.slice ae E.length ce,.slice ai I.length ci,.slice ao O.length co] 33);have aT:=aH (w.alloc (.cells #[.int .i64 A,.slice ae E.length ce,.slice ai I.length ci,.slice ao O.length co] 33)) (.cells #[.int .i64 B,.slice pJ E'.length pK,.slice pO I'.length ci',.slice ao' O'.length pR] 33);have dU:=aH ((w.alloc (.cells #[.int .i64 A,.slice ae E.length ce,.slice ai I.length ci,.slice ao O.length co] 33)).alloc (.cells #[.int .i64 B,.slice pJ E'.length pK,.slice pO I'.length ci',.slice ao' O'.length pR] 33)) (.cells #[.int .i64 0,.slice none 0 0,.slice none 0 0,.slice none 0 0] 33);have hB:=aQ.trans ((aT.mono aQ.size).trans (dU.mono (by simp;omega)));have kA:=((Bk.new w 33 #[.int .i64 A,.slice ae E.length ce,.slice ai I.length ci,.slice ao O.length co]).keep aT).keep dU;have kB:=(Bk.new (w.alloc (.cells #[.int .i64 A,.slice ae E.length ce,.slice ai I.length ci,.slice ao O.length co] 33)) 33 #[.int .i64 B,.slice pJ E'.length pK,.slice pO I'.length ci',.slice ao' O'.length pR]).keep dU;have kR:=Bk.new ((w.alloc (.cells #[.int .i64 A,.slice ae E.length ce,.slice ai I.length ci,.slice ao O.length co] 33)).alloc (.cells #[.int .i64 B,.slice pJ E'.length pK,.slice pO I'.length ci',.slice ao' O'.length pR] 33)) 33 #[.int .i64 0,.slice none 0 0,.slice none 0 0,.slice none 0 0];simp only[Zn]at kR kB;clear aQ aT dU;obtain⟨u0,Nq⟩:∃u,u=(((w.alloc (.cells #[.int .i64 A,.slice ae E.length ce,.slice ai I.length ci,.slice ao O.length co] 33)).alloc (.cells #[.int .i64 B,.slice pJ E'.length pK,.slice pO I'.length ci',.slice ao' O'.length pR] 33)).alloc (.cells #[.int .i64 0,.slice none 0 0,.slice none 0 0,.slice none 0 0] 33)):=⟨_,rfl⟩
 rw[<-Nq]at hB kA kB kR;have rW:=Za hA;have Dc:=Za yI;clear hA yI;go_enter Tryz.func147,Tryz.ntmps147;go_wp2_with (at_make;refine Yo _ rfl _ _ _ rfl (w.heap.size+3) 3 i0 _ 1 Tryz.underlying23 hi hz0 hz1 _ _ _ _ B rfl rfl rfl rfl (by rw[hz2];omega) (by unfold maxLen;omega) (by simp) ?_;intro w1 hown hgr)
 rw[<-Nq]at hgr;have hsz:u0.heap.size=w.heap.size+3:=by rw[Nq];simp
 clear Nq;have hz:=vZ (f:=gU) (0:Int) B (sz:=1) (by omega) rfl;have hb1:Below u0.heap.size u0 w1:=(Zl _ _).grown hgr (Zj _) (by simp);have hr1:Rw w1 u0.heap.size (.slice (some ⟨u0.heap.size,0,none⟩) B B) (List.replicate B 0):=by
  unfold Rw;rw[Yi,<-hz,hsz];simp only[Zn]at hown;exact hown
 rw[hsz]at hr1;have HR1:=Za hr1;have PX:=Za hsz;clear hz hown hgr hi hz0 hz1 hz2 hr1 hsz;go_loopw [14] (λi wr=>∃k:Nat,k<=B/\i=.int .i64 k/\Rw wr (w.heap.size+3) (.slice (some ⟨w.heap.size+3,0,none⟩) B B) ((bY A B).take k++(List.replicate B (0:Int)).drop k)/\Below u0.heap.size u0 wr) (λi _=>B-(intOf i).toNat)
 case atStart=>exact⟨0,Zw _,rfl,by simpa using HR1.out,hb1⟩
 case round =>
  clear HR1 hb1;obtain⟨k,hk,rfl,hrow,aI⟩:=hrel;by_cases hlt:k<B
  ·obtain⟨⟨d0,f0⟩,cZ⟩:=hrow.fill (rP A B) (by simp) hlt;rw[aec,XX]at cZ;rw[Z9]at d0;have hw:IntKind.i64.wrap ((k:Int)+A)=(k:Int)+A:=Z8 _ (by omega);have HS:=Za cZ;have qW:u0.heap.size<=w.heap.size+3:=by have:=PX.out;omega
   have Ku:=Za qW;have iA0:=(kA.keep aI).cell.1 0;have zA:=(kA.keep aI).lt;simp at iA0;clear hrow cZ qW kB kR;go_wp2;go_roundw
   case rel=>exact⟨k+1,by omega,by go_num,HS.out,aI.setCell Ku.out _⟩
   case measure=>simp[intOf];omega
  ·obtain rfl:k=B:=by omega
   have HF:=Za (hrow.full (rP _ _) (by simp));clear hrow;have b_:=hB.trans (aI.mono hB.size);replace kA:=kA.keep aI;replace kB:=kB.keep aI;replace kR:=kR.keep aI;have I5:=Za kR.lt;obtain⟨iA,fA,zA⟩:=kA.cell;have HC:=Za (awz A E I O _ _ _ wr (hR.keep b_) rW.out.le rW.out.ok rW.out.up);go_wp2_with fail
   refine HC.out.mono ?_;intro q w2 hq;obtain⟨x1,y1,x2,y2,x3,y3,rfl,hg2,hb2⟩:=hq.q;clear hq HC;dsimp only at hg2 ⊢;have hBw2:=b_.trans (hb2.mono b_.size);replace kA:=kA.keep hb2;replace kB:=kB.keep hb2;replace kR:=kR.keep hb2;have HG:=Za hg2;have HF2:=Za (HF.out.keep hb2);clear iA fA zA hg2 HF;obtain⟨iB,fB,zB⟩:=kB.cell;go_wp2_with fail
   have kA0:=(kB.alloc (.cells #[.int .i64 A,.slice x1 E.length y1,.slice x2 I.length y2,.slice x3 O.length y3] 33))
   clear iB fB zB;have kR0:=(kR.alloc (.cells #[.int .i64 A,.slice x1 E.length y1,.slice x2 I.length y2,.slice x3 O.length y3] 33))
   have k7:=Bk.new w2 33 #[.int .i64 A,.slice x1 E.length y1,.slice x2 I.length y2,.slice x3 O.length y3];have qF:=aH w2 (.cells #[.int .i64 A,.slice x1 E.length y1,.slice x2 I.length y2,.slice x3 O.length y3] 33);have HF3:=Za (HF2.out.keep qF);have HG3:=Za (HG.out.keep qF);clear HF2 HG;have hBw3:=hBw2.trans (qF.mono hBw2.size);generalize(w2.alloc (.cells #[.int .i64 A,.slice x1 E.length y1,.slice x2 I.length y2,.slice x3 O.length y3] 33))=w3 at *;have HC:=Za (aib ⟨k,E',I',O'⟩ _ _ _ _ (bY A k) k w3 (qx.keep hBw3) Dc.out.ok HF3.out.at (by rw[rP];exact Dc.out.le) (Dc.out.from A));refine HC.out.mono ?_;intro q w4 hq;obtain⟨z1,d1,z2,d2,z3,d3,rfl,hg4,hb4⟩:=hq.q;clear hq HC;dsimp only[mZ]at hg4 ⊢;generalize tX:List.map (jm (bY A k)) E'=E2 at *;generalize hI2:aG (bY A k) I'=I2 at *;generalize hO2:aG (bY A k) O'=O2 at *;have HEQ:=Za (Zb tX (Zb hI2 hO2));have hlE:E2.length=E'.length:=by rw[<-tX,ZG]
   have hlI:I2.length=I'.length:=by rw[<-hI2,gY]
   have hlO:O2.length=O'.length:=by rw[<-hO2,gY]
   have HL:=Za (Zb hlE (Zb hlI hlO));clear tX hI2 hO2 hlE hlI hlO HF3;have hBw4:=hBw3.trans (hb4.mono hBw3.size);obtain⟨C,D,q1,q2,q3,q4,q5,q6,q7,q8⟩:=HG3.out;clear HG3;have kB4:=kA0.keep hb4;have KF:=kR0.keep hb4;have k74:=k7.keep hb4;have zz2:=k7.lt;have zzR:=kR.lt;have zb2:=hb2.size;have h4z:=hb4.size;have zw:=b_.size;have hd8:=aH (w4.setCell ⟨w2.heap.size,0,none⟩ (.int .i64 ((A:Int)+k))) (.cells #[.int .i64 k,.slice z1 E2.length d1,.slice z2 I2.length d2,.slice z3 O2.length d3] 33);have k8:=Bk.new (w4.setCell ⟨w2.heap.size,0,none⟩ (.int .i64 ((A:Int)+k))) 33 #[.int .i64 k,.slice z1 E2.length d1,.slice z2 I2.length d2,.slice z3 O2.length d3];rw[YB]at k8;have hgo:=hg4.o.mono q8;have hHB:BsSt w ((w4.setCell ⟨w2.heap.size,0,none⟩ (.int .i64 ((A:Int)+k))).alloc (.cells #[.int .i64 k,.slice z1 E2.length d1,.slice z2 I2.length d2,.slice z3 O2.length d3] 33)) wr.heap.size D w2.heap.size w4.heap.size (w.heap.size+1+1) ((A:Int)+k) k (.slice x1 E.length y1) (.slice x2 I.length y2) (.slice x3 O.length y3) (.slice z1 E2.length d1) (.slice z2 I2.length d2) (.slice z3 O2.length d3) E I O E2 I2 O2 :=
    ⟨(k74.set 0 _).keep hd8,k8,(KF.other _ _ (by show w.heap.size+1+1≠w2.heap.size;omega)).keep hd8,((q3.keep hb4).setB k74 (by decide) (by decide) 0 _).keep hd8,((q4.keep hb4).setB k74 (by decide) 0 _).keep hd8,(((q5.mono q1).keep hb4).setB k74 (by decide) 0 _).keep hd8,(hgo.ed.setB k74 (by decide) (by decide) 0 _).keep hd8,(hgo.inn.setB k74 (by decide) 0 _).keep hd8,(hgo.out.setB k74 (by decide) 0 _).keep hd8,(hBw4.setCell (by show w.heap.size<=w2.heap.size;omega) _).trans (hd8.mono (by simp;exact hBw4.size)),zw,by omega,by omega,by omega,q7⟩
   have hap:Apart (.slice x2 I.length y2) (.slice x3 O.length y3):=λj hj uV=>by
    have:=q6 j hj;have:=(Zh q5 j uV).1;omega
   have Jq:=Za hap;have HI:=Za (show ∀j,(Value.slice x2 I.length y2).ownBlock=some j->j<D from λj hj=>Yc (q6 j hj) q2);have HB1:=Za hHB;have HZ:=Za (show wr.heap.size<=w4.heap.size/\D<=w4.heap.size/\w.heap.size<=wr.heap.size/\wr.heap.size<=D/\w.heap.size+1+1<w2.heap.size from⟨by omega,by omega,zw,by omega,zzR⟩);have HLn:=Za (show I.length<=1000/\O.length<=1000/\I2.length<=1000/\O2.length<=1000/\E.length<=10000/\E2.length<=10000 from⟨rW.out.ok.inn,rW.out.ok.out,by rw[HL.out.2.1];exact Dc.out.ok.inn,by rw[HL.out.2.2];exact Dc.out.ok.out,rW.out.ok.ed,by rw[HL.out.1];exact Dc.out.ok.ed⟩);have hw:IntKind.i64.wrap ((A:Int)+k)=(A:Int)+k:=Z8 _ (by omega);obtain⟨i7,f7,z7⟩:=k74.cell;obtain⟨iB,fB,zB⟩:=kB4.cell;clear hHB hap q1 q2 q3 q4 q5 q6 q7 q8 KF hd8 hgo k8 zz2 zzR zb2 h4z zw hg4 hb4 k7 kR kA kB kA0 kR0 qF hb2 hBw3 hBw2 b_ aI HL rW Dc;go_wp2_with (at_builtin;refine Y7 ?_)
   refine Za ?_;refine yZ HB1.out.inn'.at rfl (.tmp 39) (.tmp 41) rfl wr.heap.size (.slice x2 I.length y2) I rfl rfl HB1.out.inn (by simp;have:=HZ.out;omega) (by have:=HLn.out;omega) ?_;intro v1 w5 r1 r2 r3;obtain⟨L1,DW⟩:∃L,I++I2=L:=⟨_,rfl⟩
   rw[DW]at r1;obtain⟨p1,p2,p3,p4⟩:=HB1.out.inn1 HI.out Jq.out r1 r2 r3;obtain⟨a5,c5,rfl⟩:=r1.slice;have zs5:=r2.size;have HZ2:=Za (show wr.heap.size<=w5.heap.size/\D<=w5.heap.size by simp at zs5;have:=HZ.out;omega);have HL1:=Za DW;clear i7 f7 z7 zs5 DW;obtain⟨i7,f7,z7⟩:=p1.cell;obtain⟨i8,f8,z8⟩:=p2.cell;have HB2:=Za p4;have HAP2:=Za p3;clear HB1 p1 p2 p3 p4 Jq HI r1 r2 r3;go_wp2_with (at_builtin;refine Y7 ?_)
   refine Za ?_;refine yZ HB2.out.out'.at rfl (.tmp 45) (.tmp 47) rfl wr.heap.size (.slice x3 O.length y3) O rfl rfl HB2.out.out (by simp;exact HZ2.out.1) (by have:=HLn.out;omega) ?_;intro v2 w6 r1 r2 r3;obtain⟨L2,hL2⟩:∃L,O++O2=L:=⟨_,rfl⟩
   rw[hL2]at r1;obtain⟨p1,p2,p3⟩:=HB2.out.out1 HAP2.out r1 r2;obtain⟨a6,c6,rfl⟩:=r1.slice;have zs6:=r2.size;have HZ3:=Za (show wr.heap.size<=w6.heap.size/\D<=w6.heap.size by simp at zs6;have:=HZ2.out;omega);have HL2:=Za hL2;clear i7 f7 z7 i8 f8 z8 zs6 hL2;obtain⟨i7,f7,z7⟩:=p1.cell;obtain⟨i8,f8,z8⟩:=p2.cell;have HB3:=Za p3;clear HB2 p1 p2 p3 HAP2 r1 r2 r3;go_wp2_with (at_builtin;refine Y7 ?_)
   refine Za ?_;obtain⟨k71,k81,qO,e1,e2,n1,n2,b1⟩:=HB3.out;clear i7 f7 z7 i8 f8 z8 HB3;refine aja e1 e2 rfl (.tmp 51) (.tmp 53) rfl rfl rfl (Zj _) (by simp;exact HZ3.out.2) (by have:=HLn.out;omega) ?_;intro v3 w7 r1 r2 r3;obtain⟨L3,hL3⟩:∃L,E++E2=L:=⟨_,rfl⟩
   rw[hL3]at r1;have k72:=k71.grown r2 (e1.ne k71 (by decide));have oV:=qO.grown r2 (e1.ne qO (by decide));have n3:=n1.ath e1 r2;have n4:=n2.ath e1 r2;obtain⟨a7,c7,rfl⟩:=r1.shape;have b2:=b1.grown r2 b1.size (λj hj=>ZI (ZI HZ.out.2.2.1 HZ.out.2.2.2.1) (e1.lo j hj));have HF:=Za (show BsFin w w7 wr.heap.size _ _ _ L3 L1 L2 from⟨r1.mono HZ.out.2.2.2.1,n3,n4,b2⟩);have HL3:=Za hL3;have k73:=k72.set 1 (.slice a7 L3.length c7);have Ry:=oV.other ⟨w2.heap.size,1,none⟩ (.slice a7 L3.length c7) (by have:=HZ.out;show w.heap.size+1+1≠w2.heap.size;omega);obtain⟨i7,f7,z7⟩:=k72.cell;obtain⟨iR,fR,zR⟩:=oV.cell;clear k71 k81 qO e1 e2 n1 n2 b1 r1 r2 r3 n3 n4 b2 hL3 k73 Ry;have hlt7:=HZ.out.2.2.2.2;have hne7:¬w2.heap.size=w.heap.size+1+1:=by omega
   have hne8:¬w.heap.size+1+1=w2.heap.size:=by omega
   go_wp2;refine Zt (v:=.agg #[.int .i64 ((A:Int)+k),.slice a7 L3.length c7,.slice a5 L1.length c5,.slice a6 L2.length c6]) (by simp[results,Tryz.results147,go_sem,iR,hne8]) rfl ?_;have eU:=I5.out;obtain⟨e1,e2,e3⟩:=HEQ.out;refine⟨_,_,_,rfl,?_,?_⟩
   ·unfold PI;rw[e1,e2,e3,HL1.out,HL2.out,HL3.out];have g0:dB w7 wr.heap.size (.slice a7 L3.length c7) (.slice a5 L1.length c5) (.slice a6 L2.length c6) ⟨((A+k:Nat):Int),L3,L1,L2⟩:=⟨HF.out.ed,HF.out.inn,HF.out.out⟩
    exact(((((g0.setB k72 (by decide) (by decide) 1 _).low (a:=⟨w.heap.size+1+1,0,none⟩) eU _).low (a:=⟨w.heap.size+1+1,1,none⟩) eU _).low (a:=⟨w.heap.size+1+1,2,none⟩) eU _).low (a:=⟨w.heap.size+1+1,3,none⟩) eU _).mono HZ.out.2.2.1
   ·exact((((HF.out.bel.setCell (by show w.heap.size<=w2.heap.size;omega) _).setCell (by show w.heap.size<=w.heap.size+1+1;omega) _).setCell (by show w.heap.size<=w.heap.size+1+1;omega) _).setCell (by show w.heap.size<=w.heap.size+1+1;omega) _).setCell (by show w.heap.size<=w.heap.size+1+1;omega) _
theorem awp (A B:Nat) (E E':List aO) (I I' O O':List Int) (ve vi vo ve' lJ ig:Value) (w:World) (hR:dM w ve vi vo ⟨A,E,I,O⟩) (qx:dM w ve' lJ ig ⟨B,E',I',O'⟩) (hA:Bg ⟨A,E,I,O⟩ A) (yI:Bg ⟨B,E',I',O'⟩ B) :
  Calls Tryz.prog 111 #[.agg #[.int .i64 A,ve,vi,vo],.agg #[.int .i64 B,ve',lJ,ig]] w (nZ (PI A B E E' I I' O O') w):=by
 obtain⟨ae,ce,rfl⟩:=hR.ed.slice;obtain⟨ai,ci,rfl⟩:=hR.inn.slice;obtain⟨ao,co,rfl⟩:=hR.out.slice;obtain⟨pJ,pK,rfl⟩:=qx.ed.slice;obtain⟨pO,ci',rfl⟩:=qx.inn.slice;obtain⟨ao',pR,rfl⟩:=qx.out.slice;dsimp only at hR qx ⊢;have aQ:=aH w (.cells #[.int .i64 A,.slice ae E.length ce,.slice ai I.length ci,.slice ao O.length co] 33);have aT:=aH (w.alloc (.cells #[.int .i64 A,.slice ae E.length ce,.slice ai I.length ci,.slice ao O.length co] 33)) (.cells #[.int .i64 B,.slice pJ E'.length pK,.slice pO I'.length ci',.slice ao' O'.length pR] 33);have dU:=aH ((w.alloc (.cells #[.int .i64 A,.slice ae E.length ce,.slice ai I.length ci,.slice ao O.length co] 33)).alloc (.cells #[.int .i64 B,.slice pJ E'.length pK,.slice pO I'.length ci',.slice ao' O'.length pR] 33)) (.cells #[.int .i64 0,.slice none 0 0,.slice none 0 0,.slice none 0 0] 33);have hB:=aQ.trans ((aT.mono aQ.size).trans (dU.mono (by simp;omega)));have kR:=Bk.new ((w.alloc (.cells #[.int .i64 A,.slice ae E.length ce,.slice ai I.length ci,.slice ao O.length co] 33)).alloc (.cells #[.int .i64 B,.slice pJ E'.length pK,.slice pO I'.length ci',.slice ao' O'.length pR] 33)) 33 #[.int .i64 0,.slice none 0 0,.slice none 0 0,.slice none 0 0];simp only[Zn]at kR;clear aQ aT dU;go_enter Tryz.func111,Tryz.ntmps111;go_wp2_with fail
 generalize(((w.alloc (.cells #[.int .i64 A,.slice ae E.length ce,.slice ai I.length ci,.slice ao O.length co] 33)).alloc (.cells #[.int .i64 B,.slice pJ E'.length pK,.slice pO I'.length ci',.slice ao' O'.length pR] 33)).alloc (.cells #[.int .i64 0,.slice none 0 0,.slice none 0 0,.slice none 0 0] 33))=u0 at *;have eU:=kR.lt;refine(awj A B E E' I I' O O' _ _ _ _ _ _ u0 (hR.keep hB) (qx.keep hB) hA yI).mono ?_;intro q w2 hq;obtain⟨x1,y1,x2,y2,x3,y3,rfl,hg2,hb2⟩:=hq.q;clear hq;have aZ:=hB.trans (hb2.mono hB.size);have HG:=Za hg2;have HW:=Za (show(PI A B E E' I I' O O').aB=_ from rfl);clear hg2;replace kR:=kR.keep hb2;obtain⟨iR,fR,zR⟩:=kR.cell;generalize PI A B E E' I I' O O'=G at *;obtain⟨gw,ge,gi,gq⟩:=G;dsimp only;go_wp2;refine Zt (v:=.agg #[.int .i64 gw,.slice x1 ge.length y1,.slice x2 gi.length y2,.slice x3 gq.length y3]) (by simp[results,Tryz.results111,go_sem,iR]) rfl ⟨_,_,_,rfl,?_,?_⟩
 ·exact(((((HG.out).low (a:=⟨w.heap.size+1+1,0,none⟩) eU _).low (a:=⟨w.heap.size+1+1,1,none⟩) eU _).low (a:=⟨w.heap.size+1+1,2,none⟩) eU _).low (a:=⟨w.heap.size+1+1,3,none⟩) eU _).mono hB.size
 ·exact(((aZ.setCell (by show w.heap.size<=w.heap.size+1+1;omega) _).setCell (by show w.heap.size<=w.heap.size+1+1;omega) _).setCell (by show w.heap.size<=w.heap.size+1+1;omega) _).setCell (by show w.heap.size<=w.heap.size+1+1;omega) _
inductive aqt (c:List Nat):Nat->Nat->Prop
 | here {w:Nat}:c[w]?=some w->aqt c w w
 | up {w p r:Nat}:c[w]?=some p->p<w->aqt c p r->aqt c w r
theorem aqt.le {c:List Nat} {w r:Nat} (h:aqt c w r):r<=w:=by
 induction h with
 | here _=>exact Zj _
 | up _ h1 _ ih=>omega
theorem aqt.lt {c:List Nat} {w r:Nat} (h:aqt c w r):w<c.length:=by
 cases h with
 | here h=>exact(Yb.1 h).1
 | up h _ _=>exact(Yb.1 h).1
theorem aqt.fix {c:List Nat} {w r:Nat} (h:aqt c w r):c[r]?=some r:=by
 induction h with
 | here h=>exact h
 | up _ _ _ ih=>exact ih
theorem aqt.one {c:List Nat} {w r s:Nat} (h:aqt c w r) (k:aqt c w s):r=s:=by
 induction h with
 | here h =>
  cases k with
  | here _=>rfl
  | up h1 h2 _=>rw[h]at h1;injection h1 with h1;omega
 | up h1 h2 _ ih =>
  cases k with
  | here h=>rw[h]at h1;injection h1 with h1;omega
  | up h3 h4 h5=>rw[h1]at h3;injection h3 with h3;subst h3;exact ih h5
structure ae0 (c cl:List Nat):Prop where
 len:c.length=cl.length
 rt:∀w,w<c.length->aqt c w (cl.getD w 0)
theorem ae0.root {c cl:List Nat} (h:ae0 c cl) {w:Nat} (hw:w<c.length) {r:Nat} (hr:aqt c w r):cl.getD w 0=r:=(h.rt w hw).one hr
def wU (n:Nat):List Nat:=List.range n
theorem av5 (n:Nat):ae0 (wU n) (wU n):=by
 refine⟨rfl,λw hw=>?_⟩;have hw':w<n:=by simpa[wU]using hw
 have:(wU n).getD w 0=w:=by simp[wU,Zg,hw']
 rw[this];exact .here (by simp[wU,hw'])
def joinL (cl:List Nat) (a b:Nat):List Nat:=cl.map λx=>if x=Nat.max (cl.getD a 0) (cl.getD b 0)then Nat.min (cl.getD a 0) (cl.getD b 0)else x
theorem TI (cl:List Nat) (a b:Nat):(joinL cl a b).length=cl.length:=by simp[joinL]
theorem acN (cl:List Nat) (a b w:Nat) (hw:w<cl.length):(joinL cl a b).getD w 0=if cl.getD w 0=Nat.max (cl.getD a 0) (cl.getD b 0)then Nat.min (cl.getD a 0) (cl.getD b 0)else cl.getD w 0:=by
 simp[joinL,Zg,hw]
theorem av6 {c cl:List Nat} (h:ae0 c cl) {a b:Nat} (ha:a<c.length) (hb:b<c.length) :
  ae0 (c.set (Nat.max (cl.getD a 0) (cl.getD b 0)) (Nat.min (cl.getD a 0) (cl.getD b 0))) (joinL cl a b):=by
 obtain⟨x,hx⟩:∃x,cl.getD a 0=x:=⟨_,rfl⟩
 obtain⟨y,hy⟩:∃y,cl.getD b 0=y:=⟨_,rfl⟩
 have rx:=(h.rt a ha).fix;have ry:=(h.rt b hb).fix;rw[hx]at rx;rw[hy]at ry;have sN:Nat.max x y<c.length:=by
  have h1:=(Yb.1 rx).1;have h2:=(Yb.1 ry).1;exact Nat.max_lt.2 ⟨h1,h2⟩
 have lu:c[Nat.min x y]?=some (Nat.min x y):=by
  rcases WM x y with hh|hh
  ·rw[show Nat.min x y=x from YR hh];exact rx
  ·rw[show Nat.min x y=y from Wd hh];exact ry
 have xW:c[Nat.max x y]?=some (Nat.max x y):=by
  rcases WM x y with hh|hh
  ·rw[show Nat.max x y=y from We hh];exact ry
  ·rw[show Nat.max x y=x from Wl hh];exact rx
 have hle:Nat.min x y<=Nat.max x y:=by
  rcases WM x y with hh|hh
  ·rw[show Nat.min x y=x from YR hh,show Nat.max x y=y from We hh];exact hh
  ·rw[show Nat.min x y=y from Wd hh,show Nat.max x y=x from Wl hh];exact hh
 rw[hx,hy];obtain⟨m,hm⟩:∃m,Nat.max x y=m:=⟨_,rfl⟩
 obtain⟨n,hn⟩:∃n,Nat.min x y=n:=⟨_,rfl⟩
 rw[hm]at sN xW hle;rw[hn]at lu hle;rw[hm,hn];refine⟨by simp[TI,h.len],λw hw=>?_⟩;have hwc:w<c.length:=by simpa using hw
 rw[acN cl a b w (by rw[<-h.len];exact hwc),hx,hy,hm,hn];have key:∀w r,aqt c w r->aqt (c.set m n) w (if r=m then n else r):=by
  intro w r hr;induction hr with
  | @here w hw0 =>
   by_cases e:w=m
   ·subst e;rw[ZE rfl];rcases Yj n w with hlt|qW
    ·refine .up (p:=n) (by rw[WQ sN]) hlt (.here ?_);rw[Xt (by omega)];exact lu
    ·obtain rfl:n=w:=by omega
     exact .here (by rw[WQ sN])
   ·rw[ZH e];exact .here (by rw[Xt (by omega)];exact hw0)
  | @up w p r h1 h2 h3 ih =>
   by_cases e:w=m
   ·subst e;rw[xW]at h1;injection h1 with h1;omega
   ·exact .up (by rw[Xt (by omega)];exact h1) h2 ih
 exact key w _ (h.rt w hwc)
def A_ (cl:List Nat):List (Nat×Nat)->List Nat
 | []=>cl
 | p::r=>A_ (joinL cl p.1 p.2) r
theorem joinAll_len (cl:List Nat) (ps:List (Nat×Nat)):(A_ cl ps).length=cl.length:=by
 induction ps generalizing cl with
 | nil=>rfl
 | cons p r ih=>rw[A_,ih,TI]
theorem avP (cl:List Nat) (ps:List (Nat×Nat)) (p:Nat×Nat):A_ cl (ps++[p])=joinL (A_ cl ps) p.1 p.2:=by
 induction ps generalizing cl with
 | nil=>rfl
 | cons q r ih=>rw[Xb,A_,A_,ih]
def CW (cl:List Nat) (us:Nat->Bool) (r:Nat):Nat:=((List.range r).filter λx=>cl.getD x 0==x&&us x).length
theorem avX (cl:List Nat) (us:Nat->Bool) (r:Nat):CW cl us (r+1)=CW cl us r+if cl.getD r 0=r/\us r=true then 1 else 0:=by
 unfold CW;rw[YV,X3];rw[Zk,Wg,Wn];by_cases h:cl.getD r 0=r/\us r=true
 ·have:(cl.getD r 0==r&&us r)=true:=by rw[h.1,h.2];simp
  rw[ZE h,ZE this];rfl
 ·have:¬(cl.getD r 0==r&&us r)=true:=by
   intro hh;rw[Zu,XY]at hh;exact h hh
  rw[ZH h,ZH this];rfl
def Ny (cl:List Nat) (us:Nat->Bool) (w:Nat):Int:=if us (cl.getD w 0)=true then(CW cl us (cl.getD w 0):Int)else -1
theorem cls_all {c cl:List Nat} (h:ae0 c cl):∀(ps:List (Nat×Nat)),(∀p∈ps,p.1<c.length/\p.2<c.length)->∃c',ae0 c' (A_ cl ps)/\c'.length=c.length:=by
 intro ps;induction ps generalizing c cl with
 | nil=>intro _;exact⟨c,h,rfl⟩
 | cons p r ih =>
  intro hp;have hp0:=hp p (by simp);have h1:=av6 h hp0.1 hp0.2;obtain⟨c',h2,h3⟩:=ih h1 (λq hq=>by rw[Yf];exact hp q (by simp[hq]));exact⟨c',h2,by rw[h3,Yf]⟩
structure apF (cl:List Nat):Prop where
 le:∀w,w<cl.length->cl.getD w 0<=w
 idem:∀w,w<cl.length->cl.getD (cl.getD w 0) 0=cl.getD w 0
theorem ae0.clsL {c cl:List Nat} (h:ae0 c cl):apF cl:=by
 refine⟨λw hw=>(h.rt w (by rw[h.len];exact hw)).le,λw hw=>?_⟩;have hr:=h.rt w (by rw[h.len];exact hw);have hf:=hr.fix;exact h.root (Yb.1 hf).1 (.here hf)
theorem aio (n:Nat) (ps:List (Nat×Nat)) (hp:∀p∈ps,p.1<n/\p.2<n):apF (A_ (wU n) ps)/\(A_ (wU n) ps).length=n:=by
 obtain⟨c,h1,h2⟩:=cls_all (av5 n) ps (λp zV=>by simpa[wU]using hp p zV);exact⟨h1.clsL,by rw[joinAll_len];simp[wU]⟩
section
variable {cl:List Nat} {us:Nat -> Bool} {w:Nat}
theorem av8 (h:us (cl.getD w 0)=false):Ny cl us w=-1:=by unfold Ny;rw[h];rfl
theorem av9 (hc:apF cl) (hw:w<cl.length) (h:us (cl.getD w 0)=true):Ny cl us w=Ny cl us (cl.getD w 0):=by
 unfold Ny;rw[hc.idem w hw]
theorem awc (h:us (cl.getD w 0)=true) (hw:cl.getD w 0=w):Ny cl us w=(CW cl us w:Int):=by
 unfold Ny;rw[ZE h,hw]
theorem aqr (h:¬(cl.getD w 0=w/\us w=true)):CW cl us (w+1)=CW cl us w:=by rw[avX,ZH h];rfl
theorem aeP (h:cl.getD w 0=w) (h2:us w=true):CW cl us (w+1)=CW cl us w+1:=by rw[avX,ZE ⟨h,h2⟩]
theorem aqp:CW cl us w<=w:=by
 induction w with
 | zero=>simp[CW]
 | succ w ih=>rw[avX];split<;>omega
def num1 (cl:List Nat) (us:Nat->Bool) (w:Nat):Int:=if cl.getD w 0=w/\us w=true then(CW cl us w:Int)else 0
theorem av1 (hc:apF cl) (hw:w<cl.length):Ny cl us w=(if us (cl.getD w 0)=true then(if cl.getD w 0<w then Ny cl us (cl.getD w 0)else num1 cl us (cl.getD w 0))else -1):=by
 have h1:=hc.le w hw;have h2:=hc.idem w hw;by_cases h:us (cl.getD w 0)=true
 ·rw[ZE h];by_cases h3:cl.getD w 0<w
  ·rw[ZE h3];exact av9 hc hw h
  ·rw[ZH h3];have e:cl.getD w 0=w:=by omega
   unfold num1;rw[h2,ZE ⟨rfl,h⟩,awc h e,e]
 ·rw[ZH h];exact av8 (by simpa using h)
end
end Go.Proofs.YtkhpobekconobaaGreat
