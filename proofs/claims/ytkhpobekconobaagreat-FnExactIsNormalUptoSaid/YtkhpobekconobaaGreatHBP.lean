import Derived.Test.YtkhpobekconobaaGreatHBO
set_option linter.all false
set_option maxRecDepth 100000
set_option maxHeartbeats 0
namespace Go.Proofs.YtkhpobekconobaaGreat
open Go.RowKit
def abA (p q:Value×Value):Prop:=Apart p.1 q.1/\Apart p.1 q.2/\Apart p.2 q.1/\Apart p.2 q.2
structure abB (xs:List qy):Prop where
 one:∀x∈xs,Apart x.2.1 x.2.2
 two:xs.Pairwise λx y=>abA x.2 y.2
theorem abB.nil:abB []:=⟨λ_ h=>(by cases h),Xf⟩
def MsA (w:World) (B:Nat) (v:Value) (ms:List aX):Prop:=∃xs:List qy,xs.map Prod.fst=ms/\BA w B v xs/\abB xs
def MaA (ms:List aX) (w:World) (e:Ending) (w':World):Prop:=∃v,e=.returned v/\MsA w' w.heap.size v ms/\Below w.heap.size w w'
structure MsY (w:World) (B B2:Nat) (v:Value) (xs:List qy):Prop where
 row:w.ownsRow B 77 2 v xs.length (xs.flatMap D5)
 rws:∀x∈xs,Rw w B2 x.2.1 x.1.aB/\Rw w B2 x.2.2 x.1.ah
 ap:abB xs
def qV (w:World) (B B2:Nat) (v:Value) (ms:List aX):Prop:=∃xs:List qy,xs.map Prod.fst=ms/\MsY w B B2 v xs
theorem qV.keep {w w':World} {B B2:Nat} {v:Value} {ms:List aX} (hb:Below w.heap.size w w') (h:qV w B B2 v ms):qV w' B B2 v ms:=by
 obtain⟨xs,h1,h2,h3,h4⟩:=h;exact⟨xs,h1,jL hb h2,λx hx=>⟨(h3 x hx).1.keep hb,(h3 x hx).2.keep hb⟩,h4⟩
theorem qV.toA {w:World} {B B2:Nat} {v:Value} {ms:List aX} (hB:B<=B2) (h:qV w B B2 v ms):MsA w B v ms:=by
 obtain⟨xs,h1,h2,h3,h4⟩:=h;exact⟨xs,h1,⟨h2,λx hx=>⟨(h3 x hx).1.mono hB,(h3 x hx).2.mono hB⟩⟩,h4⟩
def OI (w:World) (B B2 U:Nat) (v:Value) (ms:List aX):Prop:=∃xs:List qy,xs.map Prod.fst=ms/\MsY w B B2 v xs/\∀x∈xs,∀j,x.2.1.ownBlock=some j\/x.2.2.ownBlock=some j->j<U
theorem qV.u {w:World} {B B2:Nat} {v:Value} {ms:List aX} (h:qV w B B2 v ms):OI w B B2 w.heap.size v ms:=by
 obtain⟨xs,h1,h2⟩:=h;refine⟨xs,h1,h2,λx hx j hj=>?_⟩;rcases hj with e|e
 ·exact(Zh (h2.rws x hx).1 j e).2
 ·exact(Zh (h2.rws x hx).2 j e).2
theorem OI.z {w:World} {B B2 U:Nat} {v:Value} {ms:List aX} (h:OI w B B2 U v ms):qV w B B2 v ms:=by
 obtain⟨xs,h1,h2,_⟩:=h;exact⟨xs,h1,h2⟩
theorem OI.keep {w w':World} {B B2 U:Nat} {v:Value} {ms:List aX} (hb:Below w.heap.size w w') (h:OI w B B2 U v ms):OI w' B B2 U v ms:=by
 obtain⟨xs,h1,⟨h2,h3,h4⟩,h5⟩:=h;exact⟨xs,h1,⟨jL hb h2,λx hx=>⟨(h3 x hx).1.keep hb,(h3 x hx).2.keep hb⟩,h4⟩,h5⟩
theorem qV.slice {w:World} {B B2:Nat} {v:Value} {ms:List aX} (h:qV w B B2 v ms):∃a c,v=.slice a ms.length c:=by
 obtain⟨xs,rfl,h2,h3⟩:=h;rw[ZG];rcases h2.2 with⟨hv,he⟩|⟨g,cap,cur,hv,_⟩
 ·exact⟨none,0,by rw[hv,he]⟩
 ·exact⟨_,_,hv⟩
theorem qV.lt {w:World} {B B2:Nat} {v:Value} {ms:List aX} (h:qV w B B2 v ms):∀j,v.ownBlock=some j->B<=j/\j<w.heap.size:=by
 obtain⟨xs,_,h2,_⟩:=h;exact Zh h2
theorem qV.ne {w:World} {B B2 b:Nat} {v:Value} {ms:List aX} {t:TypeId} {cs:Array Value} (h:qV w B B2 v ms) (hb:Bk w b t cs) (ht:77≠t):v.ownBlock≠some b:=by
 obtain⟨xs,_,h2,_⟩:=h;exact cO h2 hb ht
theorem qV.agB {w:World} {B B2 B3:Nat} {v u:Value} {ms:List aX} {zs:List Int} (h:qV w B B2 v ms) (hr:Rw w B3 u zs):∀j,u.ownBlock=some j->v.ownBlock≠some j:=by
 obtain⟨xs,_,h2,_⟩:=h;intro j hj hT;exact wC hr h2 (by decide) j hj hT
theorem qV.exc {w w':World} {T:Nat->Prop} {B B2:Nat} {v:Value} {ms:List aX} (hE:aC T w w') (h:qV w B B2 v ms) (hv:∀j,v.ownBlock=some j->¬T j) (hT:∀j,T j->j<B2):qV w' B B2 v ms:=by
 obtain⟨xs,h1,h2,h3,h4⟩:=h;have inn:∀{u:Value} {zs:List Int},Rw w B2 u zs->Rw w' B2 u zs:=λhr=>xZ hE hr (λj hj ht=>by
  have:=(Zh hr j hj).1;have:=hT j ht;omega)
 exact⟨xs,h1,xZ hE h2 (λj hj ht=>hv j hj ht),λx hx=>⟨inn (h3 x hx).1,inn (h3 x hx).2⟩,h4⟩
theorem qV.setB {w:World} {B B2 b:Nat} {v:Value} {ms:List aX} {t:TypeId} {cs:Array Value} (h:qV w B B2 v ms) (hb:Bk w b t cs) (ht:77≠t) (ht2:3≠t) (i:Nat) (u:Value):qV (w.setCell ⟨b,i,none⟩ u) B B2 v ms:=by
 obtain⟨xs,h1,h2,h3,h4⟩:=h;have inn:∀{u':Value} {zs:List Int},Rw w B2 u' zs->Rw (w.setCell ⟨b,i,none⟩ u) B2 u' zs:=λhr=>eP hr _ _ (cO hr hb ht2);exact⟨xs,h1,eP h2 _ _ (cO h2 hb ht),λx hx=>⟨inn (h3 x hx).1,inn (h3 x hx).2⟩,h4⟩
theorem auA {w:World} {ops:Array Oper} {rest:List Oper} {o:Oper} {a:Act} {Q:Exit->Act->World->Prop} (hgd:o.guard=none) (s x:Operand)
  (ho:o.op=.call { callee:=.builtin .append,args:=#[s,x],argTypes:=#[97,97] })
  (B B2 U:Nat) (v:Value) (ms:List aX) (hs:a.eval s=v) (hrow:OI w B B2 U v ms) (b:Nat) (m:aX) (vw ve:Value) (hx:a.eval x=.slice (some ⟨b,0,none⟩) 1 1) (hb:Bk w b 77 #[vw,ve]) (h1:Rw w B2 vw m.aB) (h2:Rw w B2 ve m.ah) (jH:∀j,vw.ownBlock=some j->U<=j) (jI:∀j,ve.ownBlock=some j->U<=j) (hap:Apart vw ve) (hB:B<=w.heap.size) (hl:ms.length<=100000)
  (H:∀v' w',qV w' B B2 v' (ms++[m])->w.grownBy w' v.ownBlock->(v'.ownBlock=v.ownBlock\/v'.ownBlock=some w.heap.size)->wpList Tryz.prog ops Q rest (a.put o.dst v') w'):wpList Tryz.prog ops Q (o::rest) a w:=by
 obtain⟨i0,hi,hz0,hz1,hz2⟩:=Yg aj1;obtain⟨xs,rfl,hX,hU⟩:=hrow;rw[ZG]at hl;have w_:AO w 2 (.slice (some ⟨b,0,none⟩) 1 1) 1 (D5 (m,vw,ve)):=⟨rfl,.inr ⟨_,_,rfl,λj u hj=>by
  rw[addr_add,Yp,hb.cell.1 j];simpa[D5]using hj⟩⟩
 refine JQ hgd s x 97 ho B 77 i0 _ 2 48 Tryz.underlying97 hi hz0 hz1 hz2 rfl (by decide) v xs.length _ hs hX.row _ 1 _ hx w_ (aj6 (y:=(m,vw,ve)) h1 h2) (by unfold maxLen;omega) (by omega) hB ?_;intro v' w' r1 r2 r3;have gr:∀{u:Value} {zs:List Int},Rw w B2 u zs->Rw w' B2 u zs:=λhr=>hr.grown r2 (λk hk e=>wC hr hX.row (by decide) k hk e);refine H v' w' ⟨xs++[(m,vw,ve)],by simp,⟨?_,λz hz=>?_,⟨λz hz=>?_,?_⟩⟩⟩ r2 r3
 ·rw[Zk,ZL];simpa using r1
 ·rcases Zs.1 hz with hz|hz
  ·exact⟨gr (hX.rws z hz).1,gr (hX.rws z hz).2⟩
  ·obtain rfl:=ZS.1 hz;exact⟨gr h1,gr h2⟩
 ·rcases Zs.1 hz with hz|hz
  ·exact hX.ap.one z hz
  ·obtain rfl:=ZS.1 hz;exact hap
 ·refine YO.2 ⟨hX.ap.two,VY _ _,λx hx y hy=>?_⟩;obtain rfl:=ZS.1 hy;have l1:=λj hj=>hU x hx j (.inl hj);have l2:=λj hj=>hU x hx j (.inr hj);exact⟨λk h h'=>by have:=l1 k h;have:=jH k h';omega,λk h h'=>by have:=l1 k h;have:=jI k h';omega,λk h h'=>by have:=l2 k h;have:=jH k h';omega,λk h h'=>by have:=l2 k h;have:=jI k h';omega⟩
theorem auB (M bo bm B B2 U:Nat) (vo:Value) (ms:List aX) (m:aX) (vw ve:Value) (w:World) (ho:Bk w bo 97 #[vo]) (hm:Bk w bm 3 #[.int .i64 (M:Int)]) (hMU:OI w B B2 U vo ms) (h1:Rw w B2 vw m.aB) (h2:Rw w B2 ve m.ah) (jH:∀j,vw.ownBlock=some j->U<=j) (jI:∀j,ve.ownBlock=some j->U<=j) (hap:Apart vw ve) (hB:B<=w.heap.size) (hl:ms.length<=1000) (hMl:M<=1000) :
  Calls Tryz.prog 92 #[.agg #[vw,ve],.pointer (some ⟨bo,0,none⟩),.pointer (some ⟨bm,0,none⟩)] w λe w'=>e=.returned (.bool (decide (ms.length+1<M))) /\
   ∃ig,Bk w' bo 97 #[ig]/\Bk w' bm 3 #[.int .i64 (M:Int)]/\qV w' B B2 ig (ms++[m])/\aC (λj=>j=bo\/vo.ownBlock=some j) w w'/\(ig.ownBlock=vo.ownBlock\/∀j,ig.ownBlock=some j->w.heap.size<=j):=by
 have hM:=hMU.z;obtain⟨oa,oc,rfl⟩:=hM.slice;obtain⟨wa,wc,rfl⟩:=h1.slice;obtain⟨ea,ec,rfl⟩:=h2.slice;obtain⟨O0,Of,oz⟩:=ho.cell;have o0:=O0 0;have of:=Of 0;have mz:=hm.lt;simp only[Ze,Zc,Zd]at o0;clear O0 Of;have hne:=hM.ne ho (by decide);have lu:=hM.ne hm (by decide);have hbm:¬bm=bo:=λe=>by
  have h:=hm;rw[e]at h;have:=ho.symm.trans h;simp at this
 have hx1:=aH w (.cells #[.slice wa m.aB.length wc,.slice ea m.ah.length ec] 77);have hx2:=hx1.trans ((aH (w.alloc (.cells #[.slice wa m.aB.length wc,.slice ea m.ah.length ec] 77)) (.cells #[.slice wa m.aB.length wc,.slice ea m.ah.length ec] 77)).mono hx1.size);have hbk:=Bk.new (w.alloc (.cells #[.slice wa m.aB.length wc,.slice ea m.ah.length ec] 77)) 77 #[.slice wa m.aB.length wc,.slice ea m.ah.length ec];simp only[Zn]at hbk;have HO:=Za (ho.keep hx2);have HMM:=Za (hm.keep hx2);have HZ:=hMU.keep hx2;have HN:=Za (Zb jH (Zb jI hap));have r1:=h1.keep hx2;have r2:=h2.keep hx2;have HX:=Za hx2;clear hM hMU h1 h2 hx1 ho hm jH jI hap;go_enter Tryz.func92,Tryz.ntmps92;go_wp2_with (at_builtin;go_must (refine auA rfl (.tmp 5) (.tmp 7) rfl B B2 U (.slice oa ms.length oc) ms rfl HZ _ m _ _ rfl hbk r1 r2 HN.out.1 HN.out.2.1 HN.out.2.2 (ZI hB HX.out.size) (by omega) ?_);intro v7 w7 q1 q2 q3;obtain⟨a7,c7,e7⟩:=q1.slice;rw[Zk,ZT]at e7;subst e7;have yD:=Bk.grown q2 HO.out hne;have uO:=Bk.grown q2 HMM.out lu;obtain⟨N0,Nf,nz7⟩:=yD.cell;have n7:=N0 0;have nf7:=Nf 0;have m7:=uO.cell.1 0;have mz7:=uO.lt;simp only[Ze,Zc,Zd]at n7 m7;clear N0 Nf)
 go_wp2;go_ret;refine⟨by show Ending.returned (.bool (decide ((ms.length:Int)+1<(M:Int))))=.returned (.bool (decide (ms.length+1<M)));rw[show(decide ((ms.length:Int)+1<(M:Int)))=decide (ms.length+1<M)by rw[decide_eq_decide];omega],.slice a7 (ms.length+1) c7,by simpa using yD.set 0 (.slice a7 (ms.length+1) c7),uO.other ⟨bo,0,none⟩ _ hbm,?_,?_,?_⟩
 ·exact q1.setB yD (by decide) (by decide) 0 _
 ·exact bF (T:=λj=>j=bo\/(Value.slice oa ms.length oc).ownBlock=some j) (a:=⟨bo,0,none⟩) (((aC.refl _ w).below HX.out).grown q2 (λk hk=>.inr (.inr hk))) (.inr (.inl rfl)) _
 ·rcases q3 with h|h
  ·exact .inl h
  ·refine .inr λj hj=>?_;rw[h]at hj;have:=Zy hj;have:=HX.out.size;omega
theorem auC {P:Program} {ops:Array Oper} {Q:Exit->Act->World->Prop} {T:Nat->Prop} {w0:World} {i:Nat} {l:List Nat} {bs:Nat->Prop} {a:Act} {w:World} {o:Oper} (ho:ops[i]?=some o) (hk:jW o=.act) (hg:o.guard=none) (hC:aC T w0 w) (f:FuncId) (hTN:∀k,T k->k<w0.heap.size)
  (h:∀K:(Nat->Prop)->Act->World->Prop,(∀bs a w,WX P ops (aC T w0) w0.heap.size Q l bs a w->K bs a w)->∃args,(∀w',aC T w0 w'->(execOp a.eval o).run P w'=.ok (.enter f args) w') /\
   ∀w1,aC T w0 w1->Below w.heap.size w w1->Calls P f args w1 λe w2=>∃v,e=.returned v/\aC T w1 w2/\(aC T w0 w2->K bs (a.put o.dst v) w2)):WX P ops (aC T w0) w0.heap.size Q (i::l) bs a w:=by
 intro o' iY;rw[ho]at iY;obtain rfl:=Zy iY;obtain⟨args,h1,h2⟩:=h _ λ_ _ _ h=>h;unfold qX rM;rw[ZE (by simp[Region.wanted,hg])];simp only[hk];intro w1 dQ;have oO:=(aC.aJ T w0).grow _ _ hC dQ;unfold rJ;rw[h1 w1 oO];refine(h2 w1 oO dQ).mono ?_;rintro e w2⟨v,e1,e2,e3⟩;exact⟨v,e1,oO.trans e2,e2.size,λk hN _ hk=>e2.block k hk (λht=>by have:=hTN k ht;omega),bs,λ_ h=>h,λ_ h=>.inl h,e3 (oO.trans e2)⟩
structure su (g q:aF) (W V M:Nat) (A:jV) (B B2:Nat) (u0 w:World) (vo:Value) (ws es:List Int) (ms:List aX):Prop where
 wt:Fv W V A q.ah.length B w ws
 re:Rw w B (A.ve q.ah.length) es
 el:es.length=q.ah.length
 ko:Bk w A.bo 97 #[vo]
 km:Bk w A.bm 3 #[.int .i64 (M:Int)]
 ms:qV w B B2 vo ms
 d1:∀j,(A.vw V).ownBlock=some j->(A.ve q.ah.length).ownBlock≠some j/\j≠A.bm
 d2:∀j,(A.ve q.ah.length).ownBlock=some j->j≠A.bm
 hi:A.b3<B2/\A.bo<B2/\(∀j,(A.vw V).ownBlock=some j->j<B2)/\∀j,(A.ve q.ah.length).ownBlock=some j->j<B2
 lo:B<=A.b3/\B<=A.bo
 bb:u0.heap.size<=B/\B<=B2/\B2<=w.heap.size
 bu:Below u0.heap.size u0 w
 fn:A.fn=.func (.func 92) #[] #[.pointer (some ⟨A.bo,0,none⟩),.pointer (some ⟨A.bm,0,none⟩)]
theorem X_ {w:World} {b b':Nat} {t t':TypeId} {cs cs':Array Value} (h:Bk w b t cs) (h':Bk w b' t' cs') (ht:t≠t'):b≠b':=λe=>by
 subst e;have:=h.symm.trans h';simp at this;exact ht this.2
theorem su.keep {g q:aF} {W V M:Nat} {A:jV} {B B2:Nat} {u0 w w':World} {vo:Value} {ws es:List Int} {ms:List aX} (hb:Below w.heap.size w w') (h:su g q W V M A B B2 u0 w vo ws es ms):su g q W V M A B B2 u0 w' vo ws es ms :=
 ⟨h.wt.keep hb,h.re.keep hb,h.el,h.ko.keep hb,h.km.keep hb,h.ms.keep hb,h.d1,h.d2,h.hi,h.lo,⟨h.bb.1,h.bb.2.1,ZI h.bb.2.2 hb.size⟩,h.bu.trans (hb.mono h.bu.size),h.fn⟩
def Ei (A:jV) (V:Nat):Nat->Prop:=λj=>(A.vw V).ownBlock=some j\/j=A.b3
def Fz (A:jV) (V n:Nat) (vo:Value):Nat->Prop:=λj=>(A.vw V).ownBlock=some j\/(A.ve n).ownBlock=some j\/j=A.b3\/j=A.bo\/vo.ownBlock=some j
theorem su.sets {g q:aF} {W V M:Nat} {A:jV} {B B2:Nat} {u0 w w':World} {vo:Value} {ws ws' es:List Int} {ms:List aX} (h:su g q W V M A B B2 u0 w vo ws es ms) (hW:Fv W V A q.ah.length B w' ws') (hE:aC (Ei A V) w w'):su g q W V M A B B2 u0 w' vo ws' es ms:=by
 have hb3:Bk w A.b3 4 _:=h.wt.tk;have e1:¬Ei A V A.bo:=by
  rintro(e|e)
  ·exact cO h.wt.rw h.ko (by decide) e
  ·exact X_ h.ko hb3 (by decide) e
 have e2:¬Ei A V A.bm:=by
  rintro(e|e)
  ·exact(h.d1 _ e).2 rfl
  ·exact X_ h.km hb3 (by decide) e
 refine⟨hW,xZ hE h.re (λj hj ht=>?_),h.el,h.ko.exc hE e1,h.km.exc hE e2,h.ms.exc hE (λj hj ht=>?_) (λj ht=>?_),h.d1,h.d2,h.hi,h.lo,⟨h.bb.1,h.bb.2.1,ZI h.bb.2.2 hE.size⟩,h.bu.trans (aas hE h.bu.size (λj ht=>?_)),h.fn⟩
 ·rcases ht with e|e
  ·exact(h.d1 j e).1 hj
  ·exact cO h.re hb3 (by decide) (e▸hj)
 ·rcases ht with e|e
  ·exact h.ms.agB h.wt.rw j e hj
  ·exact h.ms.ne hb3 (by decide) (e▸hj)
 ·rcases ht with e|e
  ·exact h.hi.2.2.1 j e
  ·exact e▸h.hi.1
 ·rcases ht with e|e
  ·exact ZI h.bb.1 (Zh h.wt.rw j e).1
  ·exact e▸ZI h.bb.1 h.lo.1
theorem su.found {g q:aF} {W V M:Nat} {A:jV} {B B2:Nat} {u0 w w':World} {vo ig:Value} {ws es:List Int} {ms ms':List aX} (h:su g q W V M A B B2 u0 w vo ws es ms) (hE:aC (λj=>j=A.bo\/vo.ownBlock=some j) w w') (ko:Bk w' A.bo 97 #[ig]) (km:Bk w' A.bm 3 #[.int .i64 (M:Int)]) (hz:qV w' B B2 ig ms'):su g q W V M A B B2 u0 w' ig ws es ms':=by
 have hb3:Bk w A.b3 4 _:=h.wt.tk;have bk:∀{b:Nat} {t:TypeId} {cs:Array Value},Bk w b t cs->t≠97->77≠t->Bk w' b t cs:=λhk h1 h2=>hk.exc hE (by
  rintro(e|e)
  ·exact X_ hk h.ko h1 e
  ·exact h.ms.ne hk h2 e)
 have rw':∀{B3:Nat} {u:Value} {zs:List Int},Rw w B3 u zs->Rw w' B3 u zs:=λhr=>xZ hE hr (λj hj ht=>by
  rcases ht with e|e
  ·exact cO hr h.ko (by decide) (e▸hj)
  ·exact h.ms.agB hr j hj e)
 refine⟨⟨bk h.wt.kk (by decide) (by decide),rw' h.wt.rw,bk h.wt.tk (by decide) (by decide),h.wt.wl,h.wt.pw⟩,rw' h.re,h.el,ko,km,hz,h.d1,h.d2,h.hi,h.lo,⟨h.bb.1,h.bb.2.1,ZI h.bb.2.2 hE.size⟩,h.bu.trans (aas hE h.bu.size (λj ht=>?_)),h.fn⟩;rcases ht with e|e
 ·exact e▸ZI h.bb.1 h.lo.2
 ·exact ZI h.bb.1 (h.ms.lt j e).1
theorem su.old {g q:aF} {W V M:Nat} {A:jV} {B B2:Nat} {u0 w:World} {vo:Value} {ws es:List Int} {ms:List aX} (h:su g q W V M A B B2 u0 w vo ws es ms):∀j,Fz A V q.ah.length vo j->j<w.heap.size:=by
 intro j hj;rcases hj with e|e|e|e|e
 ·exact(Zh h.wt.rw j e).2
 ·exact(Zh h.re j e).2
 ·exact e▸h.wt.tk.lt
 ·exact e▸h.ko.lt
 ·exact(h.ms.lt j e).2
theorem Dt.exc {w w':World} {T:Nat->Prop} {bn Bn:Nat} {vn:Value} {nt:List Int} (hE:aC T w w') (h:Dt w bn Bn vn nt) {U:Nat} (hT:∀j,T j->j<U) (h1:U<=bn) (h2:∀j,vn.ownBlock=some j->U<=j):Dt w' bn Bn vn nt :=
 ⟨h.kn.exc hE (λht=>by have:=hT _ ht;omega),xZ hE h.rn (λj hj ht=>by have:=hT _ ht;have:=h2 j hj;omega)⟩
def OJ (g q:aF) (W V M:Nat) (A:jV) (B B2:Nat) (u0:World) (vo:Value) (ws es:List Int) (ms l:List aX) (i:Nat) (w:World) (e:Ending) (w':World):Prop :=
 ∃ig es',e=.returned (.bool (decide ((ms++l).length<M)))/\su g q W V M A B B2 u0 w' ig ws es' ((ms++l).take M)/\aC (Fz A V q.ah.length vo) w w'/\(ig.ownBlock=vo.ownBlock\/∀j,ig.ownBlock=some j->w.heap.size<=j)/\es'.take i=es.take i
theorem auD {zs:List Int} {x:Int} (h:x∈zs):Lr (λz=>decide (z=x)) zs=(zs.idxOf x:Nat):=by
 have hk:zs.idxOf x<zs.length:=XI h;refine ak3 hk (λj hj hlt=>?_) (by simp);have:=List.not_of_lt_findIdx (p:=(·==x)) (xs:=zs) (i:=j) hlt;simpa using this
theorem amE {α:Type} (F:Nat->List α) (v W:Nat) (h:v<W):∃r,(List.range W).flatMap F=(List.range v).flatMap F++(F v++r):=by
 obtain⟨d,rfl⟩:∃d,W=v+(1+d):=⟨W-v-1,by omega⟩
 rw[List.range_add,ZL];refine⟨((List.range d).map λx=>v+(1+x)).flatMap F,?_⟩;congr 1;rw[Nat.add_comm 1 d,List.range_succ_eq_map,Yx,Yt];congr 1;rw[YX];congr 1;refine YZ λx _=>?_;simp;omega
theorem RG {α:Type} (F:Nat->List α) (v:Nat):(List.range (v+1)).flatMap F=(List.range v).flatMap F++F v:=by
 rw[YV,ZL];simp
theorem auE (g q:aF) (W V M:Nat) (A:jV) (B B2:Nat) (u0:World) (hW:W<=100) (hV:V<=100) (hq:q.ah.length<=60) (hM:M<=100):∀(k:Nat) (ws es:List Int) (ms:List aX) (vo:Value) (w:World),ws.count (-1)=k->su g q W V M A B B2 u0 w vo ws es ms->ms.length<M ->
  Calls Tryz.prog 128 #[.pointer (some ⟨A.kb,0,none⟩)] w (OJ g q W V M A B B2 u0 vo ws es ms (vC W k ws es) q.ah.length w):=by
 intro k;induction k with
 | zero =>
  intro ws es ms vo w hc hS hl;have hno:¬(-1:Int)∈ws:=Wr.1 hc;obtain⟨K0,-,kz⟩:=hS.wt.kk.cell;have k8:=K0 8;have k9:=K0 9;have k11:=K0 11;simp only[Ze,Zc,Zd]at k8 k9 k11;clear K0;rw[hS.fn]at k11;have qZ:=hS.wt.wl;have RH:=agj _ ws (-1) w hS.wt.rw.at (by omega)
  rw[ak4 (λj hj=>by simp;exact λe=>hno (e▸Zp hj))]at RH;have HS:=Za hS;have HIX:=Za RH;have o7:=Za qZ;clear hS RH hno qZ;go_enter Tryz.func128,Tryz.ntmps128;go_wp2_with fail
  refine HIX.out.mono ?_;rintro e w1⟨rfl,rfl⟩;clear HIX;go_wp2_with fail
  have fH:∀{w':World},aC dD w.drew w'->Below w.heap.size w w':=λh=>(Zl w.heap.size w).drew.trans (h.toBelow.mono (by simp));refine yh (C:=aC (dD) _) 12 [0,1,2,3,4,5,6,7,8,9,10,11,12,13,14] [15,16] (by kernel_rfl) (by kernel_rfl) (aC.aJ _ _) (aC.refl _ _) ?_;iterate 8 (apply dh rfl rfl rfl;(focus intro u hc' hf';go_simp<;>rfl);intro K hK;go_simp;apply hK;clear hK K)
  refine fD rfl rfl rfl (aC.aJ _ _) (aC.refl _ _) 160 (λK hK=>?_);apply Zq;refine⟨λw' hw'=>?_,λwa bT bZ=>?_⟩;(focus go_simp;rfl);refine(clone_any _ ws _ (HS.out.wt.rw.at.keep (fH bT)) (by rw[o7.out];omega)).mono ?_;rintro e w3⟨v3,rfl,hr3,hb3⟩;refine⟨_,rfl,hb3,λhx=>?_⟩;go_simp;apply hK;clear hK K;iterate 4 (apply dh rfl rfl rfl;(focus intro u hc' hf';go_simp<;>rfl);intro K hK;go_simp;apply hK;clear hK K)
  refine fD rfl rfl rfl (aC.aJ _ _) (hx) 160 (λK hK=>?_);apply Zq;refine⟨λw' hw'=>?_,λwb dJ dH=>?_⟩;(focus go_simp;rfl);refine(clone_any _ es _ (HS.out.re.at.keep (fH dJ)) (by rw[HS.out.el];omega)).mono ?_;rintro e w4⟨v4,rfl,hr4,hb4⟩;refine⟨_,rfl,hb4,λhx=>?_⟩;go_simp;apply hK;clear hK K;obtain⟨a3,c3,rfl⟩:=hr3.slice;obtain⟨a4,c4,rfl⟩:=hr4.slice;iterate 1 (apply dh rfl rfl rfl;(focus intro u hc' hf';go_simp<;>rfl);intro K hK;go_simp;apply hK;clear hK K)
  refine dR ?_;have EN:=fH hx;have Ih:=HS.out.keep EN;have aZ:=HS.out.bb.2.2;have hBB:=HS.out.bb.2.1;have DX:=bZ.size;have Kt:=dH.size;have hs3:=hb3.size;have yC:=hb4.size;simp only[Zo]at DX;have HN:=Za (show(∀j,(Value.slice a3 ws.length c3).ownBlock=some j->w.heap.size<=j)/\(∀j,(Value.slice a4 es.length c4).ownBlock=some j->w.heap.size<=j)/\Apart (.slice a3 ws.length c3) (.slice a4 es.length c4)from
   ⟨λj hj=>by have:=(Zh hr3 j hj).1;omega,λj hj=>by have:=(Zh hr4 j hj).1;omega,λk hk eH=>by have:=(Zh hr3 k hk).2;have:=(Zh hr4 k eH).1;omega⟩)
  have aaW:=((hr3.keep dH).keep hb4).mono (B':=B2) (by omega);have amF:=hr4.mono (B':=B2) (by omega);refine⟨aC (λj=>j=A.bo\/vo.ownBlock=some j) w4,w4.heap.size,aC.aJ _ _,aC.refl _ _,?_⟩;have hTN:∀j,(j=A.bo\/vo.ownBlock=some j)->j<w4.heap.size:=λj hj=>by
   rcases hj with rfl|hj
   ·exact Ih.ko.lt
   ·exact(Ih.ms.lt j hj).2
  refine auC rfl rfl rfl (aC.refl _ _) 92 (hTN) (λK hK=>?_);apply Zq;refine⟨λw' hw'=>?_,λwc hwc oZ=>?_⟩;(focus go_simp;rfl);refine(auB M A.bo A.bm B B2 w.heap.size vo ms ⟨ws,es⟩ _ _ _ (Ih.ko.keep oZ) (Ih.km.keep oZ) ((HS.out.ms.u.keep EN).keep oZ) (aaW.keep oZ) (amF.keep oZ) HN.out.1 HN.out.2.1 HN.out.2.2 (by have:=oZ.size;omega) (by omega) (by omega)).mono ?_;rintro e w5⟨rfl,vo5,ho5,hm5,D6,hx5,hv5⟩;refine⟨_,rfl,hx5,λhx=>?_⟩;go_simp;apply hK;clear hK K;iterate 1 (apply i_ rfl rfl rfl;(focus intro u hc' hf';(try simp only[Zo]at hc' hf');go_simp<;>rfl);intro K hK;go_simp;apply hK;clear hK K)
  refine dR ?_;have OL:aC (λj=>j=A.bo\/vo.ownBlock=some j) w4 w5:=hx;have Jk:=Ih.found OL ho5 hm5 D6;have hlen:(ms++vC W 0 ws es).length=ms.length+1:=by simp[vC]
  have hP:OJ g q W V M A B B2 u0 vo ws es ms (vC W 0 ws es) q.ah.length w (.returned (.bool (decide (ms.length+1<M)))) w5:=by
   refine⟨vo5,es,by rw[hlen],?_,yF ((aC.refl (Fz A V q.ah.length vo) w).below EN) OL (λj hj=>.inl ?_),?_,rfl⟩
   ·rw[ZX (by rw[hlen];omega)];exact Jk
   ·rcases hj with e|e
    ·exact .inr (.inr (.inr (.inl e)))
    ·exact .inr (.inr (.inr (.inr e)))
   ·rcases hv5 with e|e
    ·exact .inl e
    ·exact .inr λj hj=>by have:=e j hj;have:=oZ.size;omega
  have HP:=Za hP;clear hP Jk OL Ih hr3 hr4 aaW amF hTN hwc oZ hx5 D6 ho5 hm5 hv5 fH bT bZ dJ dH hb3 hb4 EN hx hlen;go_wp2;go_ret;exact HP.out
 | succ k ih =>
  intro ws es ms vo w hc hS hl;have bV:(-1:Int)∈ws:=X4.1 (by omega);have qZ:=hS.wt.wl;have hpl:ws.idxOf (-1)<ws.length:=XI bV;have RH:=agj _ ws (-1) w hS.wt.rw.at (by omega)
  rw[auD bV]at RH;have hpg:ws.getD (ws.idxOf (-1)) 0=-1:=by
   rw[Zg,Zi hpl];exact Vu hpl
  have Et:vC W (k+1) ws es=(List.range W).flatMap λv:Nat=>if((v:Nat):Int)∈ws then[]else vC W k (ws.set (ws.idxOf (-1)) (v:Int)) es:=rfl
  rw[Et];generalize ws.idxOf (-1)=p at *;obtain⟨K0,-,kz⟩:=hS.wt.kk.cell;have k0:=K0 0;have k8:=K0 8;simp only[Ze,Zc,Zd]at k0 k8;clear K0;have HS:=Za hS;have HIX:=Za RH;have o7:=Za qZ;have hpV:p<V:=by omega
  have HPG:=Za hpg;have HIH:=Za ih;have HC:=Za hc;have hp0:¬(p:Int)<0:=by omega
  clear hS RH qZ bV hpg Et ih hc hpl;obtain⟨F,hF⟩:∃F:Nat->List aX,F=λv:Nat=>if((v:Nat):Int)∈ws then[]else vC W k (ws.set p (v:Int)) es:=⟨_,rfl⟩
  rw[<-hF];have HF:=Za hF;clear hF;go_enter Tryz.func128,Tryz.ntmps128;go_wp2_with fail
  refine HIX.out.mono ?_;rintro e w1⟨rfl,rfl⟩;clear HIX;go_wp2_with fail
  clear k0 k8 kz;go_loopw [35] (λiv wr=>∃(v:Nat) (ms1:List aX) (sZ:Value),v<=W/\iv=.int .i64 v/\ms1=ms++(List.range v).flatMap F/\ms1.length<M/\su g q W V M A B B2 u0 wr sZ ws es ms1/\aC (Fz A V q.ah.length vo) w wr/\(sZ.ownBlock=vo.ownBlock\/∀j,sZ.ownBlock=some j->w.heap.size<=j)) (λiv _=>W-(intOf iv).toNat)
  case atStart=>exact⟨0,ms,vo,Zw _,rfl,by simp,hl,HS.out,aC.refl _ _,.inl rfl⟩
  case round =>
   clear HS;obtain⟨v,ms1,sZ,hv,rfl,qE,sN,hS,hE,yX⟩:=hrel;by_cases hlt:v<W
   ·have aQ:=aH wr (.cells #[] 3);have aT:=aQ.trans ((aH (wr.alloc (.cells #[] 3)) (.cells #[.slice (some ⟨wr.heap.size,0,none⟩) 0 0] 23)).mono aQ.size);have hN:Dt ((wr.alloc (.cells #[] 3)).alloc (.cells #[.slice (some ⟨wr.heap.size,0,none⟩) 0 0] 23)) (wr.heap.size+1) wr.heap.size (.slice (some ⟨wr.heap.size,0,none⟩) 0 0) []:=⟨by
     have:=Bk.new (wr.alloc (.cells #[] 3)) 23 #[.slice (some ⟨wr.heap.size,0,none⟩) 0 0];simpa using this,(aao wr wr.heap.size wr.heap.size rfl (Zj _)).keep (aH _ _)⟩
    have hold:=hS.old;have cZ:=amB W V A q.ah.length B (wr.heap.size+1) wr.heap.size _ ws [] p v _ (hS.wt.keep aT) hN (λj hj e=>by
     have:=hold j (.inl hj);simp[Value.ownBlock]at e;omega) hpV hlt (by simp) aT.size
    have Rz:=Za cZ;have HS:=Za hS;have HA:=Za aT;clear cZ hN aQ aT hS;go_wp2_with fail
    refine Rz.out.mono ?_;rintro e w3⟨b,rfl,hnone,hsome⟩;by_cases oI:(v:Int)∈ws
    ·have hs:setW ws p (v:Int)=none:=by unfold setW;rw[ZH (by rw[HPG.out];simp),ZE oI]
     obtain⟨rfl,rfl⟩:=hnone hs;have Jj:=HS.out.keep HA.out;have HK:=Za (Zb (show ms1=ms++(List.range (v+1)).flatMap F by rw[RG,HF.out];simp only[oI,if_true];rw[ZZ,<-HF.out];exact qE) (Zb Jj (hE.below HA.out)));clear hnone hsome hs oI Jj;go_wp2;go_roundw
     case rel=>exact⟨v+1,ms1,sZ,by omega,by go_num,HK.out.1,sN,HK.out.2.1,HK.out.2.2,yX⟩
     case measure=>simp[intOf];omega
    ·have hs:setW ws p (v:Int)=some (ws.set p (v:Int)):=by unfold setW;rw[ZH (by rw[HPG.out];simp),ZH oI]
     obtain⟨rfl,vn,hW3,OM,pV,hE3⟩:=hsome _ hs;have agC:aC (Ei A V) wr w3:=yF ((aC.refl (Ei A V) wr).below HA.out) hE3 (λj hj=>by
      rcases hj with e|e|e|e
      ·exact .inl (.inl e)
      ·exact .inl (.inr e)
      ·exact .inr (by omega)
      ·refine .inr ?_;simp[Value.ownBlock]at e;omega)
     have Jj:=HS.out.sets hW3 agC;have mG:=aju (l:=ws) (k:=p) (by rw[o7.out];exact hpV) HPG.out (v:=(v:Int)) (by omega);have LZ:=HIH.out (ws.set p (v:Int)) es ms1 sZ w3 (by rw[HC.out]at mG;omega) Jj sN;have hFv:F v=vC W k (ws.set p (v:Int)) es:=by rw[HF.out];simp only[oI,if_false]
     rw[<-hFv]at LZ;have sV:=(Gp.start ws).set (w:=p) (v:=(v:Int)) (by rw[o7.out];exact hpV) (by omega) hs;have amG:∀j,vn.ownBlock=some j->wr.heap.size<=j:=λj hj=>by
      rcases pV with e|e
      ·rw[e]at hj;simp[Value.ownBlock]at hj;omega
      ·have:=e j hj;have:=HA.out.size;omega
     have HX:=Za (Zb OM (Zb sV (Zb agC amG)));have abC:=Za LZ;clear hnone hsome hs oI hW3 OM pV hE3 agC Jj mG LZ hFv sV amG;go_wp2_with fail
     refine abC.out.mono ?_;rintro e w4⟨Ii,L6,he,Ih,RF,hv4,RI⟩;obtain⟨b,hb⟩:∃b,decide ((ms1++F v).length<M)=b:=⟨_,rfl⟩
     rw[hb]at he;subst he;have HB:=Za hb;clear hb;obtain rfl:L6=es:=by
      have h1:=Ih.el;have h2:=HS.out.el;rw[ZX (by omega),ZX (by omega)]at RI;exact RI
     have RD:=HX.out.1.exc RF hold (by omega) HX.out.2.2.2;have OO:=agA W V A q.ah.length B wr.heap.size vn ws _ _ w4 Ih.wt RD.rn (λj hj e=>by
      have:=hold j (.inl hj);have:=HX.out.2.2.2 j e;omega) (λe=>by
      have:=hold A.b3 (.inr (.inr (.inl rfl)));have:=HX.out.2.2.2 _ e;omega) HX.out.2.1 (by unfold notE;split<;>simp)
     obtain⟨N0,-,nz⟩:=RD.kn.cell;have n0:=N0 0;simp only[Ze,Zc,Zd]at n0;clear N0;have HU:=Za OO;have Dq:=Za (Zb Ih (Zb RF hv4));clear OO Ih RF hv4 RD abC Rz;go_wp2_with fail
     refine HU.out.mono ?_;rintro e w5⟨rfl,Lc,OL⟩;have Jk:=Dq.out.1.sets Lc OL;have L8:Ii.ownBlock=vo.ownBlock\/∀j,Ii.ownBlock=some j->w.heap.size<=j:=by
      rcases Dq.out.2.2 with e|e
      ·rw[e];exact yX
      ·exact .inr λj hj=>by
        have:=e j hj;have:=HX.out.2.2.1.size;have:=hE.size;omega
     have L9:aC (Fz A V q.ah.length vo) w w5:=by
      have h1:=yF hE HX.out.2.2.1 (λj hj=>.inl (by rcases hj with e|e;exact .inl e;exact .inr (.inr (.inl e))));have h2:=yF h1 Dq.out.2.1 (λj hj=>by
       rcases hj with e|e|e|e|e
       ·exact .inl (.inl e)
       ·exact .inl (.inr (.inl e))
       ·exact .inl (.inr (.inr (.inl e)))
       ·exact .inl (.inr (.inr (.inr (.inl e))))
       ·rcases yX with h|h
        ·exact .inl (.inr (.inr (.inr (.inr (h▸e)))))
        ·exact .inr (h j e))
      exact yF h2 OL (λj hj=>.inl (by rcases hj with e|e;exact .inl e;exact .inr (.inr (.inl e))))
     cases b with
     | true =>
      have hlen:=Wv HB.out;have HK:=Za (Zb (show ms1++F v=ms++(List.range (v+1)).flatMap F by rw[RG,<-Zz,<-qE]) (Zb hlen (Zb (show su g q W V M A B B2 u0 w5 Ii ws L6 (ms1++F v)by rw[ZX (by omega)]at Jk;exact Jk) (Zb L9 L8))));clear Jk L8 L9 Dq HU HX n0 nz Lc OL hlen;go_wp2;go_roundw
      case rel=>exact⟨v+1,_,Ii,by omega,by go_num,HK.out.1,HK.out.2.1,HK.out.2.2.1,HK.out.2.2.2.1,HK.out.2.2.2.2⟩
      case measure=>simp[intOf];omega
     | false =>
      have hlen:=of_decide_eq_false HB.out;have HP:Hid (OJ g q W V M A B B2 u0 vo ws L6 ms ((List.range W).flatMap F) q.ah.length w (.returned (.bool false)) w5):=Za (by
       obtain⟨r,hr⟩:=amE F v W hlt;have hall:ms++(List.range W).flatMap F=(ms1++F v)++r:=by rw[hr,qE];simp only[Zz]
       refine⟨Ii,L6,?_,?_,L9,L8,rfl⟩
       ·rw[hall,YH (by rw[Zk];omega)]
       ·rw[hall,Xl (by omega)];exact Jk)
      clear Jk L8 L9 Dq HU HX n0 nz Lc OL hlen;go_wp2;go_ret;exact HP.out
   ·obtain rfl:v=W:=by omega
    have HP:Hid (OJ g q v V M A B B2 u0 vo ws es ms ((List.range v).flatMap F) q.ah.length w (.returned (.bool true)) wr):=Za ⟨sZ,es,by rw[<-qE,Yn sN],by rw[<-qE,ZX (by omega)];exact hS,hE,yX,rfl⟩;clear hS hE yX qE;go_wp2;go_ret;exact HP.out
end Go.Proofs.YtkhpobekconobaaGreat
