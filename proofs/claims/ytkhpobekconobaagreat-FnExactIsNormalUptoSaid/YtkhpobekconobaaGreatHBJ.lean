import Derived.Test.YtkhpobekconobaaGreatHBI
set_option linter.all false
set_option maxRecDepth 100000
set_option maxHeartbeats 0
namespace Go.Proofs.YtkhpobekconobaaGreat
open Go.RowKit Go.Maps
theorem atC {w:World} {b m n:Nat} {t:TypeId} {cs:Array Value} {D:DataW Unit} {R:Value->Option (DataW Unit×List MemPlace)} (h:Bk w b t cs) (hm:w.ownsMap Tryz.prog 3 R m n D):b≠m:=by
 intro e;subst e;obtain⟨es,clock,h1,_⟩:=hm;unfold Bk at h;rw[h1]at h;cases h
theorem atD {w:World} {B e sz m k n:Nat} {v:Value} {xs:List Value} {D:DataW Unit} {R:Value->Option (DataW Unit×List MemPlace)} (h:w.ownsRow B e sz v k xs) (hm:w.ownsMap Tryz.prog 3 R m n D):v.ownBlock≠some m:=by
 intro hk;obtain⟨es,clock,h1,_⟩:=hm;rcases h.2 with⟨rfl,_⟩|⟨g,cap,cur,rfl,_,jF,_⟩
 ·simp[Value.ownBlock]at hk
 ·simp[Value.ownBlock]at hk;subst hk;rw[h1]at jF;cases jF
structure TkI (D:DataW Unit) (dl:List Int) (G N:Nat):Prop where
 has:∀x:Nat,x<G->Maps.has D (kI (x:Int))=decide (dl.getD x 0≠(x:Int))
 val:∀x:Nat,x<G->dl.getD x 0≠(x:Int)->D.atKey (kI (x:Int)) (.lit (.int .i64 0))=.lit (.int .i64 (dl.getD x 0))
 size:Maps.size D=N
def qU (w:World) (b n:Nat) (dl:List Int) (G N:Nat):Prop:=∃D,w.ownsMap Tryz.prog 3 (plainElem (H:=Unit) Tryz.prog 3) b n D/\TkI D dl G N
theorem qU.lt {w:World} {b n:Nat} {dl:List Int} {G N:Nat} (h:qU w b n dl G N):b<w.heap.size:=by obtain⟨D,h,_⟩:=h;exact h.lt
theorem qU.keep {w w':World} {b n:Nat} {dl:List Int} {G N:Nat} (hb:Below w.heap.size w w') (h:qU w b n dl G N):qU w' b n dl G N:=by
 obtain⟨D,⟨es,clock,h1,r⟩,hm⟩:=h;exact⟨D,⟨es,clock,(hb.block b (ZP.1 h1).1).trans h1,r⟩,hm⟩
theorem qU.exc {w w':World} {b n:Nat} {dl:List Int} {G N:Nat} {T:Nat->Prop} (h:qU w b n dl G N) (hE:aC T w w') (hT:¬T b):qU w' b n dl G N:=by
 obtain⟨D,⟨es,clock,h1,r⟩,hm⟩:=h;exact⟨D,⟨es,clock,(hE.block b (ZP.1 h1).1 hT).trans h1,r⟩,hm⟩
theorem qU.set {w:World} {b n:Nat} {dl:List Int} {G N:Nat} (h:qU w b n dl G N) (a:Addr) (v:Value) (hne:b≠a.block):qU (w.setCell a v) b n dl G N:=by
 obtain⟨D,ho,hm⟩:=h;exact⟨D,ho.setCell hne v,hm⟩
theorem qU.alM {w:World} {b n bb:Nat} {dl:List Int} {G N:Nat} {t:TypeId} {cs:Array Value} (h:qU w b n dl G N) (k:Bk w bb t cs):bb≠b:=by obtain⟨D,ho,_⟩:=h;exact atC k ho
theorem qU.Ot {w:World} {b n:Nat} {dl:List Int} {G N:Nat} {B e sz k:Nat} {v:Value} {xs:List Value} (h:qU w b n dl G N) (q:w.ownsRow B e sz v k xs):v.ownBlock≠some b:=by obtain⟨D,ho,_⟩:=h;exact atD q ho
theorem atE (G:Nat):TkI (.map []) (dW G) G 0:=by
 have hu:∀x,x<G->(dW G).getD x 0=(x:Int):=λx hx=>by simp[dW,Zg,hx]
 refine⟨λx hx=>?_,λx hx hn=>absurd (hu x hx) hn,rfl⟩;rw[hu x hx];simp;rfl
theorem atF {D:DataW Unit} {dl:List Int} {G N x:Nat} {v:Int} (h:TkI D dl G N) (ht:Tidy D) (hl:dl.length=G) (hx:x<G) (ho:dl.getD x 0=(x:Int)) (hv:v≠(x:Int)):TkI (D.put (kI (x:Int)) (.lit (.int .i64 v))) (dl.set x v) G (N+1):=by
 have hg:=xR dl x v (by omega);refine⟨λy hy=>?_,λy hy hn=>?_,?_⟩
 ·rw[hg y];by_cases e:y=x
  ·subst e;rw[ZE rfl,Yn hv];exact has_put_same ht.isMap (ak7 _) _
  ·rw[ZH e,has_put_other (ak8 (by omega))];exact h.has y hy
 ·rw[hg y]at hn ⊢;by_cases e:y=x
  ·subst e;rw[ZE rfl];exact atKey_put_same ht.isMap (ak7 _) _ _
  ·rw[ZH e]at hn ⊢;rw[atKey_put_other (ak8 (by omega))];exact h.val y hy hn
 ·rw[size_put ht,h.has x hx,ho,h.size];simp
theorem qU.look {w:World} {b n:Nat} {dl:List Int} {G N:Nat} (h:qU w b n dl G N) {x:Nat} (hx:x<G) (hG:G<=1000):∃c:Int,(Instr.lookup 235 (.map (some b)) (.int .i64 (x:Int)) true).run Tryz.prog w=.ok (.tuple #[.int .i64 c,.bool (decide (dl.getD x 0≠(x:Int)))]) w/\(dl.getD x 0≠(x:Int)->c=dl.getD x 0):=by
 obtain⟨D,ho,hm⟩:=h;obtain⟨v,ps,hrun,hv⟩:=ho.look_ok af2 Tryz.underlying235 (as5 w) (zd:=.lit (.int .i64 0)) (zp:=[]) (plainElem_int Tryz.underlying3 (by decide)) (ak6 (i:=(x:Int)) (by omega) (by omega));obtain⟨c,rfl,hc,hwc⟩:=plainElem_int_inv Tryz.underlying3 hv;simp only[YG]at hc;rw[hm.has x hx]at hrun;refine⟨c,hrun,λhn=>?_⟩;have:=hm.val x hx hn;rw[hc.1]at this;simpa using this
theorem atG (q:aF) (mw:List Int) (G base:Nat):∀ks:List Int,∀x,x<G->(∀w∈ks,q.ay.contains w=true->(mw.getD w.toNat 0).toNat≠x)->(oG q mw G base ks).1.getD x 0=(x:Int):=by
 refine aiw ?_ ?_
 ·intro x hx _;rw[aeM];simp[dW,Zg,hx]
 ·intro ks w ih x hx hn;have h1:=ih x hx λv hv=>hn v (by simp[hv]);rw[acJ];unfold ND;by_cases hc:q.ay.contains w=true
  ·rw[ZE hc];simp only;rw[Zg,Xt (hn w (by simp) hc),<-Zg];exact h1
  ·rw[ZH hc];exact h1
theorem agk (ca bt bm n:Nat) (zs dl:List Int) (G N B:Nat) (a:Option Addr) (w:World) (hv:Rw w B (.slice a zs.length ca) zs) (hz:∀k∈zs,0<=k/\k<(G:Int)) (hl:zs.length<=1000) (hG:G<=1000) (FP:dl.length=G) (kt:Bk w bt 235 #[.map (some bm)]) (hm:qU w bm n dl G N) :
  Calls Tryz.prog 182 #[.slice a zs.length ca,.pointer (some ⟨bt,0,none⟩)] w λe w'=>e=.returned (.tuple #[])/\Rw w' B (.slice a zs.length ca) (aG dl zs)/\aC (Nh (.slice a zs.length ca)) w w':=by
 have d_:=cO hv kt (by decide);have lu:=hm.Ot hv;have HZ:=Za hz;have HM:=Za hm;clear hz hm;go_enter Tryz.func182,Tryz.ntmps182;go_wp2_with fail
 go_loopw [9] (λi wr=>∃k:Nat,k<=zs.length/\i=.int .i64 k/\Rw wr B (.slice a zs.length ca) ((aG dl zs).take k++zs.drop k)/\aC (Nh (.slice a zs.length ca)) w wr) (λi _=>zs.length-(intOf i).toNat)
 case atStart=>exact⟨0,Zw _,rfl,by simpa using hv,aC.refl _ _⟩
 case round =>
 clear hv;obtain⟨k,hk,rfl,hrow,hE⟩:=hrel;by_cases hlt:k<zs.length
 ·obtain⟨g,c',e,hg,wK⟩:=hrow.block (by simp[gY];omega);simp only[Zx]at e;obtain⟨rfl,-,rfl⟩:=e;obtain⟨⟨d0,f0⟩,cZ⟩:=hrow.fill (gY dl zs) rfl hlt;have hzk:=HZ.out _ (Zp hlt);have Um:(aG dl zs)[k]'(by rw[gY];exact hlt)=dl.getD (zs[k]).toNat 0:=by simp[aG]
  have yK:=λ(h:(aG dl zs)[k]'(by rw[gY];exact hlt)=zs[k])=>take_same (aG dl zs) zs k (by rw[gY];exact hlt) hlt h;rw[Um]at cZ yK;have Kv:=Za hrow;have kt2:Bk wr bt 235 #[.map (some bm)]:=kt.exc hE (λh=>d_ h);have F9:=HM.out.exc hE (λh=>lu h);have t0:=kt2.cell.1 0;have tz:=kt2.lt;simp only[Ze,Zc]at t0;obtain⟨x,hx⟩:∃x:Nat,zs[k]=x:=⟨(zs[k]).toNat,by omega⟩
  rw[hx]at d0 hzk cZ yK;obtain⟨c,hlk,hcv⟩:=F9.look (x:=x) (by omega) hG;rw[Zr]at cZ yK;have PY:=Za yK;clear yK hrow Um;cases hb:decide (dl.getD x 0≠(x:Int))with
  | false =>
   have hbf:dl.getD x 0=(x:Int):=by simpa using hb
   rw[hb]at hlk;have HS:=Za (show Rw wr B (.slice (some ⟨g,0,none⟩) zs.length ca) ((aG dl zs).take (k+1)++zs.drop (k+1))from by rw[<-PY.out hbf];exact Kv.out);have HE:=Za hE;clear cZ hE hb hbf hcv hx kt2 F9;go_wp2;go_roundw
   case rel=>exact⟨k+1,by omega,by go_num,HS.out,HE.out⟩
   case measure=>simp[intOf];omega
  | true =>
   have hbt:dl.getD x 0≠(x:Int):=by simpa using hb
   rw[hb]at hlk;rw[<-hcv hbt]at cZ;have HS:=Za (Zb cZ (bF hE (a:=⟨g,k,none⟩) (.inr (by simp[Nh,Value.ownBlock])) (.int .i64 c)));clear cZ hE hb hbt hcv hx kt2 F9;go_wp2;go_roundw
   case rel=>exact⟨k+1,by omega,by go_num,HS.out.1,HS.out.2⟩
   case measure=>simp[intOf];omega
 ·obtain rfl:k=zs.length:=by omega
  have HF:=Za (Zb (hrow.full (gY _ _) rfl) hE);clear hrow hE;go_wp2;refine XV (v:=.tuple #[]) (by first|rfl|simp[results,Tryz.results182,go_sem]) rfl ⟨rfl,HF.out.1,HF.out.2⟩
def adw (g:aF) (w:World) (e:Ending) (w':World):Prop:=∃(a1:Option Addr) (c1:Nat) (a2:Option Addr) (c2:Nat) (a3:Option Addr) (c3:Nat) (xs:List fF),e=.returned (.agg #[.int .i64 g.aB,.slice a1 g.ah.length c1,.slice a2 g.aj.length c2,.slice a3 g.ay.length c3]) /\
 fV w' w.heap.size (.slice a1 g.ah.length c1) xs [(.slice a3 g.ay.length c3,g.ay),(.slice a2 g.aj.length c2,g.aj)]/\xs.map Prod.fst=g.ah/\Below w.heap.size w w'
structure U7 (w wr:World) (bA:Nat) (cnt:Int) (vi vo:Value) (li lo:List Int) (L:List aO) (a:Option Addr) (n c:Nat) (xs:List fF):Prop where
 blk:Bk wr bA 33 #[.int .i64 cnt,.slice a n c,vi,vo]
 op:fV wr w.heap.size (.slice a n c) xs [(vo,lo),(vi,li)]
 len:n=xs.length
 fst:xs.map Prod.fst=L
 bel:Below w.heap.size w wr
 lo:w.heap.size<=bA
theorem U7.keep {w wr w':World} {bA:Nat} {cnt:Int} {vi vo:Value} {li lo:List Int} {L:List aO} {a:Option Addr} {n c:Nat} {xs:List fF} (h:U7 w wr bA cnt vi vo li lo L a n c xs) (hb:Below wr.heap.size wr w'):U7 w w' bA cnt vi vo li lo L a n c xs :=
 ⟨h.blk.keep hb,h.op.keep hb,h.len,h.fst,h.bel.trans (hb.mono h.bel.size),h.lo⟩
theorem atH (g:aF) (ve vi vo vt:Value) (tz:List Int) (cnt:Int) (w:World) (hR:dM w ve vi vo g) (aP:Tf g) (ht:aU w vt tz) (Em:tz.length<=1000) (bV:Po tz g.places) :
  Calls Tryz.prog 142 #[.agg #[.int .i64 g.aB,ve,vi,vo],.int .i64 cnt,vt] w (adw (mZ g cnt tz) w):=by
 obtain⟨⟨ae,ce,rfl⟩,⟨ai,ci,rfl⟩,ao,co,rfl⟩:=hR.slices;obtain⟨pt,ct,rfl⟩:=ht.slice;have DL:=λ(u:World) (hu:Below w.heap.size w u) (v:Value) (l:List Int) (hv:aU u v l) (hl:Po tz l) (hn:l.length<=1000)=>(MX _ v tz l u (ht.keep hu) hv hl (by omega) (by omega)).mono (R':=DJ (aG tz l) u) λ_ _ h=>h.q;obtain⟨zk,rH,AY⟩:=aaA (g:=g);have lK:=Za bV;have HP:=Za (Zb zk (Zb rH AY));have jf:=Za aP;have vG:=Za DL;clear DL zk rH AY bV;have aQ:=aH w (.cells #[.int .i64 g.aB,.slice ae g.ah.length ce,.slice ai g.aj.length ci,.slice ao g.ay.length co] 33);have aT:=aH (w.alloc (.cells #[.int .i64 g.aB,.slice ae g.ah.length ce,.slice ai g.aj.length ci,.slice ao g.ay.length co] 33)) (.cells #[.int .i64 0,.slice none 0 0,.slice none 0 0,.slice none 0 0] 33);have hB:=aQ.trans (aT.mono aQ.size);have kG:=(Bk.new w 33 #[.int .i64 g.aB,.slice ae g.ah.length ce,.slice ai g.aj.length ci,.slice ao g.ay.length co]).keep aT;have kR:=Bk.new (w.alloc (.cells #[.int .i64 g.aB,.slice ae g.ah.length ce,.slice ai g.aj.length ci,.slice ao g.ay.length co] 33)) 33 #[.int .i64 0,.slice none 0 0,.slice none 0 0,.slice none 0 0];simp only[Zn]at kR;clear aQ aT;go_enter Tryz.func142,Tryz.ntmps142;go_wp2_with fail
 generalize((w.alloc (.cells #[.int .i64 g.aB,.slice ae g.ah.length ce,.slice ai g.aj.length ci,.slice ao g.ay.length co] 33)).alloc (.cells #[.int .i64 0,.slice none 0 0,.slice none 0 0,.slice none 0 0] 33))=u0 at *;have HR1:=Za kR.lt;obtain⟨iG,-,zG⟩:=kG.cell;have g1:=iG 1;have g2:=iG 2;have g3:=iG 3;simp at g1 g2 g3;clear iG;have fH:∀{w':World},aC dD u0.drew w'->Below u0.heap.size u0 w':=λh=>(Zl u0.heap.size u0).drew.trans (h.toBelow.mono (by simp));refine h_ (C:=aC (dD) _) 4 [0,1,2,3,4,5,6,7,8,9,10,11] (by kernel_rfl) (by kernel_rfl) (aC.aJ _ _) (aC.refl _ _) ?_;iterate 4 (apply dh rfl rfl rfl;(focus intro u hc' hf';go_simp<;>rfl);intro K hK;go_simp;apply hK;clear hK K)
 refine fD rfl rfl rfl (aC.aJ _ _) (aC.refl _ _) 162 (λK hK=>?_);apply Zq;refine⟨λw' hw'=>?_,λwa bT bZ=>?_⟩;(focus go_simp;rfl);refine(vG.out _ (hB.trans ((fH bT).mono hB.size)) _ g.aj (hR.inn.keep (hB.trans ((fH bT).mono hB.size))) (λk hk=>lK.out k (HP.out.1 k hk)) jf.out.inn).mono ?_;rintro e w3⟨a3,c3,rfl,hr3,hb3⟩;refine⟨_,rfl,hb3,λhx=>?_⟩;go_simp;apply hK;clear hK K;iterate 3 (apply dh rfl rfl rfl;(focus intro u hc' hf';go_simp<;>rfl);intro K hK;go_simp;apply hK;clear hK K)
 refine fD rfl rfl rfl (aC.aJ _ _) (hx) 162 (λK hK=>?_);apply Zq;refine⟨λw' hw'=>?_,λwb dJ dH=>?_⟩;(focus go_simp;rfl);refine(vG.out _ (hB.trans ((fH dJ).mono hB.size)) _ g.ay (hR.out.keep (hB.trans ((fH dJ).mono hB.size))) (λk hk=>lK.out k (HP.out.2.1 k hk)) jf.out.out).mono ?_;rintro e w4⟨a4,c4,rfl,hr4,hb4⟩;refine⟨_,rfl,hb4,λhx=>?_⟩;go_simp;apply hK;clear hK K;iterate 1 (apply dh rfl rfl rfl;(focus intro u hc' hf';go_simp<;>rfl);intro K hK;go_simp;apply hK;clear hK K)
 refine ku rfl rfl rfl (aC.aJ _ _) hx (λb=>.pointer (some ⟨b,0,none⟩)) (λK hK=>?_);apply Zq;refine⟨λw' hw'=>?_,λbA w7 f_ dA aW hNb d_=>?_⟩
 ·go_simp;rfl
 go_simp;refine hK _ _ _ ?_;clear hK K;refine jd rfl rfl rfl (aC.aJ _ _) f_ (λK hK=>?_);intro w8 dY bJ;have kO:Bk w8 bA 33 #[.int .i64 0,.slice none 0 0,.slice none 0 0,.slice none 0 0]:=(bJ.block bA (made_cell aW).2.2).trans aW;obtain⟨m0,m1,m2⟩:=kO.cell;refine⟨(((w8.setCell ⟨bA,0,none⟩ (.int .i64 cnt)).setCell ⟨bA,1,none⟩ (.slice none 0 0)).setCell ⟨bA,2,none⟩ (.slice a3 (aG tz g.aj).length c3)).setCell ⟨bA,3,none⟩ (.slice a4 (aG tz g.ay).length c4),?_,⟨bF (bF (bF (bF dY (.inl hNb) _) (.inl hNb) _) (.inl hNb) _) (.inl hNb) _,by simp,λj _ hj _=>by rw[Zm _ _ _ _ (λh=>hj (by simp[h])),Zm _ _ _ _ (λh=>hj (by simp[h])),Zm _ _ _ _ (λh=>hj (by simp[h])),Zm _ _ _ _ (λh=>hj (by simp[h]))]⟩,?_⟩
 ·go_simp
 go_simp;refine hK _ _ _ ?_;clear hK K;refine dR ?_;have qF:u0.heap.size<=bA:=by simpa using hNb
 have Nq:w.heap.size<=u0.heap.size:=hB.size;have Nr:=bJ.size;have hst:U7 u0 ((((w8.setCell ⟨bA,0,none⟩ (.int .i64 cnt)).setCell ⟨bA,1,none⟩ (.slice none 0 0)).setCell ⟨bA,2,none⟩ (.slice a3 (aG tz g.aj).length c3)).setCell ⟨bA,3,none⟩ (.slice a4 (aG tz g.ay).length c4)) bA cnt (.slice a3 (aG tz g.aj).length c3) (.slice a4 (aG tz g.ay).length c4) (aG tz g.aj) (aG tz g.ay) [] none 0 0 []:=by
  have uG:Below w4.heap.size w4 w8:=dA.trans (bJ.mono dA.size);have h0:fV wa u0.heap.size (.slice none 0 0) [] []:=⟨Ye _ _ _ _,⟨λx hx=>(by cases hx),Xf⟩⟩
  have h4:=((((h0.new hb3 hr3 (Zj _) (fH bT).size).keep dH).new hb4 hr4 (Zj _) (fH dJ).size).keep uG)
  have k1:=kO.set 0 (.int .i64 cnt);have k2:=k1.set 1 (.slice none 0 0);have k3:=k2.set 2 (.slice a3 (aG tz g.aj).length c3);have k4:=k3.set 3 (.slice a4 (aG tz g.ay).length c4);exact⟨k4,(((h4.setB kO (by decide) (by decide) 0 _).setB k1 (by decide) (by decide) 1 _).setB k2 (by decide) (by decide) 2 _).setB k3 (by decide) (by decide) 3 _,rfl,rfl,((((fH dY).setCell qF _).setCell qF _).setCell qF _).setCell qF _,qF⟩
 clear hx bT bZ dJ dH f_ dA aW hNb d_ dY bJ hr3 hr4 hb3 hb4 kO m0 m1 m2 g1 g2 g3 zG fH Nr;generalize((((w8.setCell ⟨bA,0,none⟩ (.int .i64 cnt)).setCell ⟨bA,1,none⟩ (.slice none 0 0)).setCell ⟨bA,2,none⟩ (.slice a3 (aG tz g.aj).length c3)).setCell ⟨bA,3,none⟩ (.slice a4 (aG tz g.ay).length c4))=W at *;generalize Jt:(aG tz g.aj).length=ni at *;generalize hno:(aG tz g.ay).length=no at *;have U8:=Za (Zb Jt hno);clear Jt hno;replace kG:=kG.keep hst.bel;obtain⟨iG,-,zG⟩:=kG.cell;have g1:=iG 1;simp at g1;clear iG;go_wp2_with fail
 clear g1 zG kG;obtain⟨pe,JO,rV,hce,yj⟩:=hR.ed;simp only[Zx]at rV;obtain⟨rfl,-,rfl⟩:=rV;have Cb:=jf.out.ed;go_loopw [23] (λi wr=>∃k:Nat,k<=g.ah.length/\i=.int .i64 k/\∃a n c xs,U7 u0 wr bA cnt (.slice a3 ni c3) (.slice a4 no c4) (aG tz g.aj) (aG tz g.ay) ((g.ah.take k).map (jm tz)) a n c xs) (λi _=>g.ah.length-(intOf i).toNat)
 case atStart=>exact⟨0,Zw _,rfl,none,0,0,[],hst⟩
 case round =>
  clear hst;obtain⟨k,hk,rfl,a,n,c,xs,hst⟩:=hrel;by_cases hlt:k<g.ah.length
  ·obtain⟨b,o,rfl,_,dI⟩:=yj k hlt;have dF:=hB.trans (hst.bel.mono hB.size);obtain⟨d0,d1,x1,x2,d2,d3,hi,ho⟩:=dI.keep dF;have yt:=HP.out.2.2 k hlt;have AZ:=jf.out.xO _ (Zp hlt);have A8:=take_one g.ah k hlt;obtain⟨e,he⟩:∃e,g.ah[k]=e:=⟨_,rfl⟩
   rw[he]at d0 d1 hi ho yt AZ A8;obtain⟨a1,q1,rfl⟩:=hi.slice;obtain⟨a2,q2,rfl⟩:=ho.slice;have bz:=cell_lt d0;have lC:xs.length=k:=by have:=congrArg List.length hst.fst;simp at this;omega
   have oC:=Za lC;have uH:=Za (Zb yt AZ);have HTI:=Za A8;have oP:=aH wr (.cells #[.int .i64 e.kind,.int .i64 e.value,.slice a1 e.aj.length q1,.slice a2 e.ay.length q2] 102);have kE:=Bk.new wr 102 #[.int .i64 e.kind,.int .i64 e.value,.slice a1 e.aj.length q1,.slice a2 e.ay.length q2];have dS:=hst.keep oP;have DR:=hst.len;have hb1:=dS.bel;replace hi:=hi.keep oP;replace ho:=ho.keep oP;clear yj dI he yt AZ A8 hst lC;go_wp2_with fail
   generalize(wr.alloc (.cells #[.int .i64 e.kind,.int .i64 e.value,.slice a1 e.aj.length q1,.slice a2 e.ay.length q2] 102))=u1 at *;clear d0 d1 d2 d3 bz oP;obtain⟨iE,-,zE⟩:=kE.cell;have e0:=iE 0;have e1:=iE 1;have e2:=iE 2;have e3:=iE 3;simp at e0 e1 e2 e3;obtain⟨iO,-,zO⟩:=dS.blk.cell;have o1:=iO 1;simp at o1;clear iE iO;generalize wr.heap.size=E at *;have rD:=hB.trans (hb1.mono hB.size);have gW:∀{w':World},aC dD u1.drew w'->Below u1.heap.size u1 w':=λh=>(Zl u1.heap.size u1).drew.trans (h.toBelow.mono (by simp));have HN:=Za DR;clear DR;refine yh (C:=aC (dD) _) 9 [0,1,2,3,4,5,6,7,8,9,10,11,12,13,14,15] [16,17,18] (by kernel_rfl) (by kernel_rfl) (aC.aJ _ _) (aC.refl _ _) ?_;iterate 9 (apply dh rfl rfl rfl;(focus intro u hc' hf';go_simp<;>rfl);intro K hK;go_simp;apply hK;clear hK K)
   refine fD rfl rfl rfl (aC.aJ _ _) (aC.refl _ _) 162 (λK hK=>?_);apply Zq;refine⟨λw' hw'=>?_,λwa bT bZ=>?_⟩;(focus go_simp;rfl);refine(vG.out _ (rD.trans ((gW bT).mono rD.size)) _ e.aj (hi.keep (gW bT)) (λk hk=>lK.out k (uH.out.1.1 k hk)) uH.out.2.1).mono ?_;rintro e w3⟨a5,c5,rfl,jP,bH⟩;refine⟨_,rfl,bH,λhx=>?_⟩;go_simp;apply hK;clear hK K;iterate 3 (apply dh rfl rfl rfl;(focus intro u hc' hf';go_simp<;>rfl);intro K hK;go_simp;apply hK;clear hK K)
   refine fD rfl rfl rfl (aC.aJ _ _) (hx) 162 (λK hK=>?_);apply Zq;refine⟨λw' hw'=>?_,λwb dJ dH=>?_⟩;(focus go_simp;rfl);refine(vG.out _ (rD.trans ((gW dJ).mono rD.size)) _ e.ay (ho.keep (gW dJ)) (λk hk=>lK.out k (uH.out.1.2 k hk)) uH.out.2.2).mono ?_;rintro e w4⟨a6,c6,rfl,fQ,aV⟩;refine⟨_,rfl,aV,λhx=>?_⟩;go_simp;apply hK;clear hK K;iterate 1 (apply dh rfl rfl rfl;(focus intro u hc' hf';go_simp<;>rfl);intro K hK;go_simp;apply hK;clear hK K)
   refine ku rfl rfl rfl (aC.aJ _ _) (hx) (λb=>.slice (some ⟨b,0,none⟩) 1 1) (λK hK=>?_);apply Zq;refine⟨λw' hw'=>?_,λbb w5 gu jT aW hNb d_=>?_⟩
   ·obtain⟨hc',hf'⟩:=hw'.cell
    try simp only[Zo]at hc' hf'
    go_simp;rfl
   go_simp;refine hK _ _ _ ?_;clear hK K;refine dR ?_;have qG:Below u1.heap.size u1 w5:=gW gu;have hs3:=(dS.op.keep (gW bT)).new bH jP (Zj _) (ZI hb1.size (gW bT).size);have yC:=(hs3.keep dH).new aV fQ (Zj _) (ZI hb1.size (gW dJ).size);have hs5:=(yC.keep jT).perm (Vi _ _ _);have LG:=hs5.wL;have Gf:=hs5.get (p:=(.slice a5 (aG tz e.aj).length c5,aG tz e.aj)) (ZO ..);have CV:=hs5.get (p:=(.slice a6 (aG tz e.ay).length c6,aG tz e.ay)) (Ya _ (ZO ..));have tK:=dS.blk.keep qG;have aic:=tK.lt;have abx:Below u0.heap.size u0 w5:=hb1.trans (qG.mono hb1.size);have nS:zo w5 u0.heap.size [(jm tz e,.slice a5 (aG tz e.aj).length c5,.slice a6 (aG tz e.ay).length c6)]:=λy hy=>by
    obtain rfl:=ZS.1 hy;exact⟨Gf,CV⟩
   have Pq:xs.length+1<=100000:=by have:=oC.out;omega
   refine⟨aC (λj=>j=bA\/(Value.slice a n c).ownBlock=some j) w5,w5.heap.size,aC.aJ _ _,aC.refl _ _,?_⟩;refine aco rfl rfl rfl (aC.refl _ _) (.tmp 28) (.tmp 42) rfl u0.heap.size (.slice a n c) xs [(jm tz e,.slice a5 (aG tz e.aj).length c5,.slice a6 (aG tz e.ay).length c6)] bb 1 1 rfl rfl rfl (λj hj=>.inl ⟨(Zh LG.row j hj).2,.inr hj⟩) abx.size Pq LG nS (by simpa[nK,jm]using aW) ?_;intro K hK w6 w7 v7 jk jQ dL hgr f_ yu;obtain⟨a7,c7,oQ⟩:=dL.shape;rw[Zk,ZT]at oQ;subst oQ;go_simp;refine hK _ _ _ ?_;clear hK K;iterate 1 (apply i_ rfl rfl rfl;(focus intro u hc' hf';(try simp only[Zo]at hc' hf');go_simp<;>rfl);intro K hK;go_simp;apply hK;clear hK K)
   refine jd rfl rfl rfl (aC.aJ _ _) f_ (λK hK=>?_);intro w8 dY jY;have wW:=((hs5.keep jQ).edge (e:=jm tz e) dL hgr).keep jY;have zH:Bk w8 bA 33 #[.int .i64 cnt,.slice a n c,.slice a3 ni c3,.slice a4 no c4]:=((tK.keep jQ).grown hgr (cO LG.row tK (by decide))).keep jY;have agl:Below u0.heap.size u0 w7:=(abx.trans (jQ.mono abx.size)).grown hgr (ZI abx.size jQ.size) (λj hj=>(Zh LG.row j hj).1);obtain⟨m0,m1,m2⟩:=zH.cell;refine⟨w8.setCell ⟨bA,1,none⟩ (.slice a7 (xs.length+1) c7),?_,⟨bF dY (.inr (.inl rfl)) _,by simp,λj hN _ _=>by rw[Zm _ _ _ _ (λh=>by simp at h;omega)]⟩,?_⟩
   ·go_simp
   go_simp;refine hK _ _ _ ?_;clear hK K;refine dR ?_;have Ns:U7 u0 (w8.setCell ⟨bA,1,none⟩ (.slice a7 (xs.length+1) c7)) bA cnt (.slice a3 ni c3) (.slice a4 no c4) (aG tz g.aj) (aG tz g.ay) ((g.ah.take (k+1)).map (jm tz)) a7 (xs.length+1) c7 (xs++[(jm tz e,.slice a5 (aG tz e.aj).length c5,.slice a6 (aG tz e.ay).length c6)]) :=
    ⟨zH.set 1 _,wW.setB zH (by decide) (by decide) 1 _,by simp,by rw[ZK,dS.fst,HTI.out,ZK];rfl,(agl.trans (jY.mono agl.size)).setCell dS.lo _,dS.lo⟩
   have HST:=Za Ns;clear Ns wW agl abx hs5 yC hs3 LG zH m0 m1 m2 dY jY hgr f_ yu dL jk jQ nS Gf CV tK aW hNb d_ gu jT hx bT bZ dJ dH jP fQ bH aV gW e0 e1 e2 e3 o1 kE zE zO hi ho dS;go_wp2;go_roundw
   case rel=>exact⟨k+1,by omega,by go_num,a7,_,c7,_,HST.out⟩
   case measure=>simp[intOf];omega
  ·obtain rfl:k=g.ah.length:=by omega
   rw[ZY]at hst;have hlen:=hst.len;have oD:=hst.fst;have lD:n=(g.ah.map (jm tz)).length:=by rw[hlen,<-oD,ZG]
   have HFS:=Za (Zb oD lD);have b_:=hB.trans (hst.bel.mono hB.size);replace kR:=kR.keep hst.bel;obtain⟨iR,fR,zR⟩:=kR.cell;obtain⟨iO,-,zO⟩:=hst.blk.cell;have eU:w.heap.size+1<u0.heap.size:=HR1.out;have vV:=Za hst.op;clear yj oD hst hlen lD;go_wp2;refine Zt (v:=.agg #[.int .i64 cnt,.slice a n c,.slice a3 ni c3,.slice a4 no c4]) (by simp[results,Tryz.results142,go_sem,iR]) rfl ?_;have jw:∀j,(⟨w.heap.size+1,j,none⟩:Addr).block<u0.heap.size:=λ_=>eU;refine⟨a,c,a3,c3,a4,c4,xs,?_,?_,HFS.out.1,?_⟩
   ·rw[HFS.out.2,<-U8.out.1,<-U8.out.2];rfl
   ·have h:=((((vV.out.low (jw 0) (.int .i64 cnt)).low (jw 1) (.slice a n c)).low (jw 2) (.slice a3 ni c3)).low (jw 3) (.slice a4 no c4)).mono hB.size;rw[<-U8.out.1,<-U8.out.2,HFS.out.2]at h;rw[<-U8.out.1,<-U8.out.2,HFS.out.2];exact h
   ·exact(((b_.setCell (by simp) _).setCell (by simp) _).setCell (by simp) _).setCell (by simp) _
theorem alN (A:Nat) (E:List aO) (I O:List Int) (ve vi vo:Value) (w:World) (hR:dM w ve vi vo ⟨A,E,I,O⟩) (hA:Bg ⟨A,E,I,O⟩ A) :
  Calls Tryz.prog 99 #[.agg #[.int .i64 (A:Int),ve,vi,vo]] w (adw ⟨A,E,I,O⟩ w):=by
 obtain⟨ae,ce,rfl⟩:=hR.ed.slice;obtain⟨ai,ci,rfl⟩:=hR.inn.slice;obtain⟨ao,co,rfl⟩:=hR.out.slice;dsimp only at hR;have aQ:=aH w (.cells #[.int .i64 (A:Int),.slice ae E.length ce,.slice ai I.length ci,.slice ao O.length co] 33);have aT:=aH (w.alloc (.cells #[.int .i64 (A:Int),.slice ae E.length ce,.slice ai I.length ci,.slice ao O.length co] 33)) (.cells #[.int .i64 0,.slice none 0 0,.slice none 0 0,.slice none 0 0] 33);have hB:=aQ.trans (aT.mono aQ.size);have kG:=(Bk.new w 33 #[.int .i64 (A:Int),.slice ae E.length ce,.slice ai I.length ci,.slice ao O.length co]).keep aT;have kR:=Bk.new (w.alloc (.cells #[.int .i64 (A:Int),.slice ae E.length ce,.slice ai I.length ci,.slice ao O.length co] 33)) 33 #[.int .i64 0,.slice none 0 0,.slice none 0 0,.slice none 0 0];have hz:((w.alloc (.cells #[.int .i64 (A:Int),.slice ae E.length ce,.slice ai I.length ci,.slice ao O.length co] 33)).alloc (.cells #[.int .i64 0,.slice none 0 0,.slice none 0 0,.slice none 0 0] 33)).heap.size=w.heap.size+2:=by simp
 simp only[Zn]at kR;have acY:=hA.le;have H_:=Za (λ(u:World) (v:Value) (hu:Below w.heap.size w u) (hv:aU u v (dW A))=>(show Calls Tryz.prog 142 #[.agg #[.int .i64 (A:Int),.slice ae E.length ce,.slice ai I.length ci,.slice ao O.length co],.int .i64 (A:Int),v] u (adw ⟨A,E,I,O⟩ u)from by
  have h:=atH ⟨A,E,I,O⟩ _ _ _ v (dW A) A u (hR.keep hu) hA.ok hv (by rw[oh];exact hA.le) hA.up;rw[aqE _ A hA.up rfl]at h;exact h))
 clear aQ aT hR hA;go_enter Tryz.func99,Tryz.ntmps99;go_wp2_with fail
 generalize((w.alloc (.cells #[.int .i64 (A:Int),.slice ae E.length ce,.slice ai I.length ci,.slice ao O.length co] 33)).alloc (.cells #[.int .i64 0,.slice none 0 0,.slice none 0 0,.slice none 0 0] 33))=u0 at *;have G0:=kG.cell.1;have g0:=G0 0;have g1:=G0 1;have g2:=G0 2;have g3:=G0 3;have gz:=kG.lt;have rz:=kR.lt;simp only[Ze,Zc,Zd]at g0 g1 g2 g3;clear G0;have hgr:¬w.heap.size=w.heap.size+1:=by omega
 have Ju:∀{w':World},aC (λj=>j=w.heap.size+1) u0.drew w'->Below w.heap.size w w':=λh=>hB.trans (((Zl w.heap.size u0).drew.trans (h.low (λj hj=>by omega) (by simp;omega))));refine h_ (C:=aC ((λj=>j=w.heap.size+1)) _) 4 [0,1,2,3,4,5,6,7] (by kernel_rfl) (by kernel_rfl) (aC.aJ _ _) (aC.refl _ _) ?_;iterate 5 (apply i_ rfl rfl rfl;(focus intro u hc' hf';(try simp only[Zo]at hc' hf');go_simp<;>rfl);intro K hK;go_simp;apply hK;clear hK K)
 refine fD rfl rfl rfl (aC.aJ _ _) (aC.refl _ _) 143 (λK hK=>?_);apply Zq;refine⟨λw' hw'=>?_,λwa bT bZ=>?_⟩;(focus go_simp;rfl);refine((O1 A _ (by omega)).mono (R':=DJ (dW A) wa) λ_ _ h=>h.q).mono ?_;rintro e w3⟨a3,c3,rfl,hr3,hb3⟩;refine⟨_,rfl,hb3,λhx=>?_⟩;go_simp;apply hK;clear hK K;refine fD rfl rfl rfl (aC.aJ _ _) (hx) 142 (λK hK=>?_);apply Zq;refine⟨λw' hw'=>?_,λwb dJ dH=>?_⟩;(focus go_simp;rfl);refine(H_.out wb _ (Ju dJ) (hr3.keep dH).at).mono ?_;rintro e w4⟨x1,y1,x2,y2,x3,y3,xs,rfl,hop,oD,hb4⟩;refine⟨_,rfl,hb4,λhx=>?_⟩;go_simp;apply hK;clear hK K;refine jd rfl rfl rfl (aC.aJ _ _) hx (λK hK=>?_);intro w8 dY bJ;have PW:Bk w8 (w.heap.size+1) 33 #[.int .i64 0,.slice none 0 0,.slice none 0 0,.slice none 0 0]:=by
  have h1:=bJ.block (w.heap.size+1);have hs0:w.heap.size+1<u0.drew.heap.size:=by simpa using rz
  have k3:Bk w3 (w.heap.size+1) 33 #[.int .i64 0,.slice none 0 0,.slice none 0 0,.slice none 0 0]:=(kR.keep ((Zl u0.heap.size u0).drew.trans ((bZ.trans (hb3.mono bZ.size)).mono (by simp))))
  exact((k3.keep dH).keep hb4).keep bJ
 obtain⟨m0,m1,m2⟩:=PW.cell;refine⟨(((w8.setCell ⟨w.heap.size+1,0,none⟩ (.int .i64 (A:Int))).setCell ⟨w.heap.size+1,1,none⟩ (.slice x1 E.length y1)).setCell ⟨w.heap.size+1,2,none⟩ (.slice x2 I.length y2)).setCell ⟨w.heap.size+1,3,none⟩ (.slice x3 O.length y3),?_,⟨bF (bF (bF (bF dY (.inr rfl) _) (.inr rfl) _) (.inr rfl) _) (.inr rfl) _,by simp,λj hj _ _=>by
  have gV:¬j=w.heap.size+1:=by intro hh;simp only[Zo]at hj;omega
  rw[Zm _ _ _ _ (λh=>gV (by simpa using h)),Zm _ _ _ _ (λh=>gV (by simpa using h)),Zm _ _ _ _ (λh=>gV (by simpa using h)),Zm _ _ _ _ (λh=>gV (by simpa using h))]⟩,?_⟩
 ·go_simp
 go_simp;refine hK _ _ _ ?_;clear hK K;refine dR ?_;have alO:=Ju dY;have eU:w.heap.size+1<wb.heap.size:=by have h1:=hb3.size;have h2:=dH.size;have h3:=bZ.size;simp only[Zo]at h3;omega
 have jw:∀j,(⟨w.heap.size+1,j,none⟩:Addr).block<wb.heap.size:=λ_=>eU;have alP:=(((((hop.keep bJ).low (jw 0) (.int .i64 (A:Int))).low (jw 1) (.slice x1 E.length y1)).low (jw 2) (.slice x2 I.length y2)).low (jw 3) (.slice x3 O.length y3)).mono (Ju dJ).size;have tY:Below w.heap.size w ((((w8.setCell ⟨w.heap.size+1,0,none⟩ (.int .i64 (A:Int))).setCell ⟨w.heap.size+1,1,none⟩ (.slice x1 E.length y1)).setCell ⟨w.heap.size+1,2,none⟩ (.slice x2 I.length y2)).setCell ⟨w.heap.size+1,3,none⟩ (.slice x3 O.length y3)):=(((alO.setCell (by simp) _).setCell (by simp) _).setCell (by simp) _).setCell (by simp) _;have pU:Bk ((((w8.setCell ⟨w.heap.size+1,0,none⟩ (.int .i64 (A:Int))).setCell ⟨w.heap.size+1,1,none⟩ (.slice x1 E.length y1)).setCell ⟨w.heap.size+1,2,none⟩ (.slice x2 I.length y2)).setCell ⟨w.heap.size+1,3,none⟩ (.slice x3 O.length y3)) (w.heap.size+1) 33 #[.int .i64 (A:Int),.slice x1 E.length y1,.slice x2 I.length y2,.slice x3 O.length y3]:=by
  simpa using(((PW.set 0 (.int .i64 (A:Int))).set 1 (.slice x1 E.length y1)).set 2 (.slice x2 I.length y2)).set 3 (.slice x3 O.length y3)
 have HF:=Za (Zb alP (Zb oD tY));clear alP tY oD hop dY bJ hx bT dJ bZ dH hr3 hb3 hb4 m0 m1 m2 PW Ju g0 g1 g2 g3 gz rz kG kR hB alO;generalize((((w8.setCell ⟨w.heap.size+1,0,none⟩ (.int .i64 (A:Int))).setCell ⟨w.heap.size+1,1,none⟩ (.slice x1 E.length y1)).setCell ⟨w.heap.size+1,2,none⟩ (.slice x2 I.length y2)).setCell ⟨w.heap.size+1,3,none⟩ (.slice x3 O.length y3))=w9 at *;obtain⟨iR,-,zR⟩:=pU.cell;go_wp2;refine Zt (v:=.agg #[.int .i64 (A:Int),.slice x1 E.length y1,.slice x2 I.length y2,.slice x3 O.length y3]) (by simp[results,Tryz.results99,go_sem,iR]) rfl ?_;exact⟨x1,y1,x2,y2,x3,y3,xs,rfl,HF.out.1,HF.out.2.1,HF.out.2.2⟩
theorem atI (W:Int) (vi vo:Value) (ae:Option Addr) (ne ce:Nat) (I O:List Int) (x:Int) (w:World) (hi:aU w vi I) (ho:aU w vo O) (hl:I.length<=1000/\O.length<=1000) :
  Calls Tryz.prog 181 #[.agg #[.int .i64 W,.slice ae ne ce,vi,vo],.int .i64 x] w (nH (decide (x∈I)&&decide (x∈O)) w):=by
 obtain⟨ai,ci,rfl⟩:=hi.slice;obtain⟨ao,co,rfl⟩:=ho.slice;have hB:=aH w (.cells #[.int .i64 W,.slice ae ne ce,.slice ai I.length ci,.slice ao O.length co] 33);have H1:=Za (λ(u:World) (hu:Below w.heap.size w u)=>adv _ I x u (hi.keep hu) (by omega));have H2:=Za (λ(u:World) (hu:Below w.heap.size w u)=>adv _ O x u (ho.keep hu) (by omega));have kG:=Bk.new w 33 #[.int .i64 W,.slice ae ne ce,.slice ai I.length ci,.slice ao O.length co];clear hi ho;generalize decide (x∈I)=a at *;generalize decide (x∈O)=b at *;go_enter Tryz.func181,Tryz.ntmps181;go_wp2_with fail
 generalize(w.alloc (.cells #[.int .i64 W,.slice ae ne ce,.slice ai I.length ci,.slice ao O.length co] 33))=u0 at *;refine(H1.out u0 hB).mono ?_;rintro e u1⟨rfl,rfl⟩;have g3:=kG.cell.1 3;have gz:=kG.lt;simp only[Ze,Zc,Zd]at g3;clear kG;cases a with
 | false =>
  go_wp2;go_ret;exact⟨rfl,hB⟩
 | true =>
  go_wp2_with fail
  refine(H2.out _ hB).mono ?_;rintro e u2⟨rfl,rfl⟩;go_wp2;go_ret;exact⟨rfl,hB⟩
end Go.Proofs.YtkhpobekconobaaGreat
