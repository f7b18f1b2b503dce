import Derived.Test.YtkhpobekconobaaGreatHBP
import Derived.Deep.LoopGhost
import Derived.Laws.EntriesVeiled
set_option linter.all false
set_option maxRecDepth 100000
set_option maxHeartbeats 0
namespace Go.Proofs.YtkhpobekconobaaGreat
open Go.RowKit
theorem su.amH {g q:aF} {W V M:Nat} {A:jV} {B B2:Nat} {u0 w:World} {vo:Value} {ws es:List Int} {ms:List aX} (h:su g q W V M A B B2 u0 w vo ws es ms) {b:Nat} {t:TypeId} {cs:Array Value} (hk:Bk w b t cs) (h1:3≠t) (h2:4≠t) (h3:97≠t) (h4:77≠t):¬Fz A V q.ah.length vo b:=by
 rintro(e|e|e|e|e)
 ·exact cO h.wt.rw hk h1 e
 ·exact cO h.re hk h1 e
 ·exact X_ (show Bk w A.b3 4 _ from h.wt.tk) hk h2 e.symm
 ·exact X_ h.ko hk h3 e.symm
 ·exact h.ms.ne hk h4 e
theorem Ei.im {A:jV} {V n:Nat} {vo:Value} {j:Nat} (h:Ei A V j):Fz A V n vo j:=by
 rcases h with e|e
 ·exact .inl e
 ·exact .inr (.inr (.inl e))
theorem su.ac3 {g q:aF} {W V M:Nat} {A:jV} {B B2:Nat} {u0 w:World} {vo:Value} {ws es:List Int} {ms:List aX} (h:su g q W V M A B B2 u0 w vo ws es ms) {k:Nat} (hk:k<q.ah.length) (z:Int) :
  ∃d,A.ea=some ⟨d,0,none⟩/\w.cell? ⟨d,k,none⟩=some (.int .i64 (es.getD k 0))/\w.frozen? ⟨d,k,none⟩=false/\su g q W V M A B B2 u0 (w.setCell ⟨d,k,none⟩ (.int .i64 z)) vo ws (es.set k z) ms:=by
 have hR:=h.re;obtain⟨d,c',e,hg,wK⟩:=hR.block (by rw[h.el];omega);simp only[Zx]at e;obtain⟨e1,-,-⟩:=e;rw[show A.ve q.ah.length=.slice (some ⟨d,0,none⟩) q.ah.length A.ec by unfold jV.ve;rw[e1]]at hR;have Jm:(A.ve q.ah.length).ownBlock=some d:=by unfold jV.ve;rw[e1];rfl
 obtain⟨⟨d0,f0⟩,cZ⟩:=Rw.setAt hR h.el hk z;have hb3:Bk w A.b3 4 _:=h.wt.tk;have ne:∀{b:Nat} {t:TypeId} {cs:Array Value},Bk w b t cs->3≠t->b≠d:=λhk ht e=>cO hR hk ht (by rw[e];rfl);have hE:=bF (T:=λj=>j=d) (a:=⟨d,k,none⟩) (aC.refl (λj=>j=d) w) (.inr rfl) (.int .i64 z);refine⟨d,e1,by rw[d0,Zg,Zi];rfl,f0,⟨⟨h.wt.kk.other _ _ (ne h.wt.kk (by decide)),eP h.wt.rw _ _ (λe=>(h.d1 d e).1 Jm),Bk.other h.wt.tk _ _ (ne hb3 (by decide)),h.wt.wl,h.wt.pw⟩,by rw[show A.ve q.ah.length=.slice (some ⟨d,0,none⟩) q.ah.length A.ec by unfold jV.ve;rw[e1]];exact cZ,by rw[Yf];exact h.el,h.ko.other _ _ (ne h.ko (by decide)),h.km.other _ _ (λe=>h.d2 d Jm e.symm),h.ms.exc hE (λj hj ht=>?_) (λj ht=>?_),h.d1,h.d2,h.hi,h.lo,⟨h.bb.1,h.bb.2.1,by rw[YB];exact h.bb.2.2⟩,h.bu.trans (aas hE h.bu.size (λj ht=>?_)),h.fn⟩⟩
 ·exact h.ms.agB h.re j (by rw[Jm,ht]) hj
 ·exact ht▸h.hi.2.2.2 d Jm
 ·exact ht▸ZI h.bb.1 wK
theorem auF (es:List Int) (i:Nat) (z:Int) (h:i<es.length):(es.set i z).take (i+1)=es.take i++[z]:=by
 rw[Zv (by simpa using h),XT (Zj _),Wb]
theorem auG (g q:aF) (W V M:Nat) (A:jV) (B B2:Nat) (u0:World) (hq:KO g q W V) (hM:M<=100) (hG:oM u0 A.gv g.ah) (hQ:oM u0 A.qv q.ah):∀(r i:Nat) (ws es:List Int) (ms:List aX) (vo:Value) (w:World),i+r=q.ah.length->su g q W V M A B B2 u0 w vo ws es ms->ms.length<M ->
  Calls Tryz.prog 93 #[.pointer (some ⟨A.kb,0,none⟩),.int .i64 (i:Int)] w (OJ g q W V M A B B2 u0 vo ws es ms (wM g q r ws (es.take i)) i w):=by
 intro r;have hqs:=hQ.slice;have kH:=hG.slice;obtain⟨qa,qc,hqv⟩:=hqs;obtain⟨ga,gc,hgv⟩:=kH;have I_:=hq.nG;have EM:=hq.nQ;have Ae:=hq.nV;have hnW:=hq.nW;induction r with
 | zero =>
  intro i ws es ms vo w hi hS hl;obtain rfl:i=q.ah.length:=by omega
  obtain⟨K0,-,kz⟩:=hS.wt.kk.cell;have k5:=K0 5;simp only[Ze,Zc,Zd]at k5;clear K0;rw[hqv]at k5;have hr:=auE g q W V M A B B2 u0 hnW Ae EM hM (ws.count (-1)) ws es ms vo w rfl hS hl;have dL:wM g q 0 ws (es.take q.ah.length)=vC W (ws.count (-1)) ws es:=by
   rw[wM,hq.mq.gw,Zr,ZX (by rw[hS.el];exact Zj _)]
  rw[dL];have HR:=Za hr;clear hr hS dL hG hQ hgv hqv hq hi hl;go_enter Tryz.func93,Tryz.ntmps93;go_wp2
  go_step3
  go_wp2_with fail
  refine HR.out.mono ?_;rintro e w1⟨sZ,es1,rfl,h1,h2,h3,h4⟩;have HP:Hid (OJ g q W V M A B B2 u0 vo ws es ms (vC W (ws.count (-1)) ws es) q.ah.length w (.returned (.bool (decide ((ms++vC W (ws.count (-1)) ws es).length<M)))) w1):=Za ⟨sZ,es1,rfl,h1,h2,h3,h4⟩;clear h1 h2 h3 h4;generalize(decide ((ms++vC W (ws.count (-1)) ws es).length<M))=bb at *;go_wp2
  try rw[VS]
  go_ret;exact HP.out
 | succ r ih =>
  intro i ws es ms vo w hi hS hl;have hiq:i<q.ah.length:=by omega
  obtain⟨K0,-,kz⟩:=hS.wt.kk.cell;have k1:=K0 1;have k5:=K0 5;simp only[Ze,Zc,Zd]at k1 k5;clear K0;rw[hqv]at k5;rw[hgv]at k1;have FP:(es.take i).length=i:=by rw[ZJ,hS.el];omega
  have dL:wM g q (r+1) ws (es.take i)=(List.range g.ah.length).flatMap λf:Nat =>
    if((f:Nat):Int)∈es.take i\/(q.ah.getD i bQ).kind≠(g.ah.getD f bQ).kind\/(q.ah.getD i bQ).value≠(g.ah.getD f bQ).value then[]
    else match mY ws (tJ (q.ah.getD i bQ) (g.ah.getD f bQ))with
     | none=>[]
     | some ws'=>wM g q r ws' (es.take i++[(f:Int)]):=by rw[wM,FP];rfl
  rw[dL];obtain⟨F,hF⟩:∃F:Nat->List aX,F=λf:Nat =>
    if((f:Nat):Int)∈es.take i\/(q.ah.getD i bQ).kind≠(g.ah.getD f bQ).kind\/(q.ah.getD i bQ).value≠(g.ah.getD f bQ).value then[]
    else match mY ws (tJ (q.ah.getD i bQ) (g.ah.getD f bQ))with
     | none=>[]
     | some ws'=>wM g q r ws' (es.take i++[(f:Int)]):=⟨_,rfl⟩
  rw[<-hF];have HF:=Za hF;clear hF dL;obtain⟨x,hx⟩:∃x,q.ah.getD i bQ=x:=⟨_,rfl⟩
  have Rl:x∈q.ah:=hx▸pF hiq;have lC:=hq.lq x Rl;have hQw:=hQ;rw[hqv]at hQw;obtain⟨a',c',e',hcc,hat⟩:=hQw;simp only[Zx,Wh]at e';obtain⟨rfl,rfl⟩:=e';obtain⟨qb,qo2,hqa,_,Rn⟩:=hat i hiq;rw[show q.ah[i]'hiq=x by rw[<-hx,Zg,Zi hiq];rfl]at Rn;obtain⟨c0,c1,wi,wo2,c2,c3,qH,qJ⟩:=Rn;obtain⟨e1,e2,rfl⟩:=qH.slice;obtain⟨e3,e4,rfl⟩:=qJ.slice;replace c0:=aK hS.bu c0;replace c1:=aK hS.bu c1;replace c2:=aK hS.bu c2;replace c3:=aK hS.bu c3;have HX:=Za hx;clear hx hat hcc;obtain⟨ek,ev,X1,X2⟩:=x;simp only at c0 c1 c2 c3 qH qJ lC;have hA:=aH w (.cells #[.int .i64 ek,.int .i64 ev,.slice e1 X1.length e2,.slice e3 X2.length e4] 102);have hkE:=Bk.new w 102 #[.int .i64 ek,.int .i64 ev,.slice e1 X1.length e2,.slice e3 X2.length e4];have hSA:=hS.keep hA;have HI:=Za (Zb qH qJ);have HSA:=Za hSA;have HQ:=Za hq;have HG:=Za hG;have HIH:=Za ih;have HXM:=Za Rl;have HS:=Za hS;have hin0:((i:Int)==(q.ah.length:Int))=false:=Yu.2 (by omega);have cz:=cell_lt c0;clear hS qH qJ hSA hq hG hQ ih Rl;subst hqa;go_enter Tryz.func93,Tryz.ntmps93;go_wp2
  go_step3
  go_wp2_with fail
  go_step3
  go_wp2_with fail
  clear c0 c1 c2 c3 cz k5
  go_loopg [37] (g.ah.length) (λgn iv wr=>∃(f:Nat) (ms1:List aX) (sZ:Value) (es1:List Int),f+gn=g.ah.length/\iv=.int .i64 f/\Hid (ms1=ms++(List.range f).flatMap F)/\ms1.length<M/\su g q W V M A B B2 u0 wr sZ ws es1 ms1/\aC (Fz A V q.ah.length vo) w wr/\(sZ.ownBlock=vo.ownBlock\/∀j,sZ.ownBlock=some j->w.heap.size<=j)/\Hid (es1.take i=es.take i)/\Bk wr w.heap.size 102 #[.int .i64 ek,.int .i64 ev,.slice e1 X1.length e2,.slice e3 X2.length e4])
  case atStart=>exact⟨0,ms,vo,es,by omega,rfl,Za (by simp),hl,HSA.out,(aC.refl _ _).below hA,.inl rfl,Za rfl,hkE⟩
  case round =>
   clear hA hkE HSA;obtain⟨f,ms1,sZ,es1,SS,rfl,rY,sN,hS,hE,yX,HT,kE⟩:=hrel;cases gk with
   | zero =>
    obtain rfl:f=g.ah.length:=by omega
    have HP:Hid (OJ g q W V M A B B2 u0 vo ws es ms ((List.range g.ah.length).flatMap F) i w (.returned (.bool true)) wr):=Za ⟨sZ,es1,by rw[<-rY.out,Yn sN],by rw[<-rY.out,ZX (by omega)];exact hS,hE,yX,HT.out⟩;have hlt0:¬((g.ah.length:Nat):Int)<(g.ah.length:Int):=by omega
    clear hS hE yX kE;go_wp2
    try rw[VS]
    go_ret;exact HP.out
   | succ gg =>
    have hlt:f<g.ah.length:=by omega
    have awL:(f:Int)<(g.ah.length:Int):=by omega
    generalize wr=wo at *;obtain⟨K0,-,kz2⟩:=hS.wt.kk.cell;have k1:=K0 1;have k9:=K0 9;simp only[Ze,Zc,Zd]at k1 k9;clear K0;rw[hgv]at k1;have hGw:=HG.out.keep hS.bu;rw[hgv]at hGw;obtain⟨a',c',e',hcc,hat⟩:=hGw;simp only[Zx,Wh]at e';obtain⟨rfl,rfl⟩:=e';obtain⟨gb,go2,Hf,_,Rn⟩:=hat f hlt;obtain⟨y,hy⟩:∃y,g.ah.getD f bQ=y:=⟨_,rfl⟩
    rw[show g.ah[f]'hlt=y by rw[<-hy,Zg,Zi hlt];rfl]at Rn;have Jy:y∈g.ah:=hy▸pF hlt;have uD:=HQ.out.lg y Jy;obtain⟨c0,c1,wi,wo2,c2,c3,qH,qJ⟩:=Rn;obtain⟨f1,f2,rfl⟩:=qH.slice;obtain⟨f3,f4,rfl⟩:=qJ.slice;have HY:=Za (Zb hy Jy);clear hy hat hcc Jy;obtain⟨xk,xv,Y1,Y2⟩:=y;simp only at c0 c1 c2 c3 qH qJ uD;have hFf:F f=if((f:Nat):Int)∈es.take i\/ek≠xk\/ev≠xv then[]else match mY ws (tJ ⟨ek,ev,X1,X2⟩ ⟨xk,xv,Y1,Y2⟩)with
     | none=>[]
     | some ws'=>wM g q r ws' (es.take i++[(f:Int)]):=by rw[HF.out];simp only[HX.out,HY.out.1]
    have HFF:=Za hFf;clear hFf;have hcz:=cell_lt c0;have hEI:=hS.re.at
    have ED:q.ah.length<=A.ec:=by
     obtain⟨a5,c5,h5,h6,_⟩:=hEI;simp only[Zx]at h5;obtain⟨_,h7,h8⟩:=h5;have:=hS.el;omega
    have awM:(i:Int)<=(A.ec:Int):=by omega
    have aQ:=aH wo (.cells #[.int .i64 xk,.int .i64 xv,.slice f1 Y1.length f2,.slice f3 Y2.length f4] 102);have hcon:=adv (.slice A.ea i A.ec) (es1.take i) f (wo.alloc (.cells #[.int .i64 xk,.int .i64 xv,.slice f1 Y1.length f2,.slice f3 Y2.length f4] 102)) (by
     have h:=hEI.keep aQ;have hl5:(es1.take i).length=i:=by rw[ZJ,hS.el];omega
     rw[show A.ve q.ah.length=.slice A.ea q.ah.length A.ec from rfl,<-Yr i es1]at h;have h2:=ade h;rw[hl5]at h2;exact h2) (by rw[ZJ];omega)
    have auH:=Za hcon;have HO:=Za (Zb hS (Zb hE (Zb yX kE)));have HI2:=Za (Zb qH qJ);have E0:=kE.cell.1;have x0:=E0 0;have x1:=E0 1;have x2:=E0 2;have x3:=E0 3;have xz:=kE.lt;simp only[Ze,Zc,Zd]at x0 x1 x2 x3;clear E0 hcon hS hE yX kE qH qJ hEI;subst Hf;go_wp2_with fail
    refine auH.out.mono ?_;rintro e w1⟨he,rfl⟩;by_cases hc1:((f:Nat):Int)∈es1.take i
    ·rw[Yn hc1]at he;subst he;have HK:=Za (Zb (show ms1=ms++(List.range (f+1)).flatMap F by rw[RG,HFF.out,ZE (.inl (HT.out▸hc1)),ZZ];exact rY.out) (HO.out.1.keep aQ));have kE1:=HO.out.2.2.2.keep aQ;have OG:=HO.out.2.1.below aQ;clear hc1 c0 c1 c2 c3 x0 x1 x2 x3 k1 k9;go_wp2
     go_roundg gg
     case measure=>omega
     case rel=>exact⟨f+1,ms1,sZ,es1,by omega,by go_num,Za HK.out.1,sN,HK.out.2,OG,HO.out.2.2.1,HT,kE1⟩
    ·rw[YH hc1]at he;subst he;have HC1:=Za hc1;clear hc1;by_cases hc2:ek=xk
     ·by_cases hc3:ev=xv
      ·subst hc2 hc3;have hBa:=aQ.trans ((aH (wo.alloc (.cells #[.int .i64 ek,.int .i64 ev,.slice f1 Y1.length f2,.slice f3 Y2.length f4] 102)) (.cells #[] 3)).mono aQ.size);have hBb:=hBa.trans ((aH ((wo.alloc (.cells #[.int .i64 ek,.int .i64 ev,.slice f1 Y1.length f2,.slice f3 Y2.length f4] 102)).alloc (.cells #[] 3)) (.cells #[.slice (some ⟨wo.heap.size+1,0,none⟩) 0 0] 23)).mono hBa.size);have hBc:=hBb.trans ((aH (((wo.alloc (.cells #[.int .i64 ek,.int .i64 ev,.slice f1 Y1.length f2,.slice f3 Y2.length f4] 102)).alloc (.cells #[] 3)).alloc (.cells #[.slice (some ⟨wo.heap.size+1,0,none⟩) 0 0] 23)) (.cells #[.slice f1 Y1.length f2,.slice f3 Y2.length f4] 23)).mono hBb.size);have OM:Dt ((((wo.alloc (.cells #[.int .i64 ek,.int .i64 ev,.slice f1 Y1.length f2,.slice f3 Y2.length f4] 102)).alloc (.cells #[] 3)).alloc (.cells #[.slice (some ⟨wo.heap.size+1,0,none⟩) 0 0] 23)).alloc (.cells #[.slice f1 Y1.length f2,.slice f3 Y2.length f4] 23)) (wo.heap.size+1+1) (wo.heap.size+1) (.slice (some ⟨wo.heap.size+1,0,none⟩) 0 0) []:=⟨by
        have h:=(Bk.new ((wo.alloc (.cells #[.int .i64 ek,.int .i64 ev,.slice f1 Y1.length f2,.slice f3 Y2.length f4] 102)).alloc (.cells #[] 3)) 23 #[.slice (some ⟨wo.heap.size+1,0,none⟩) 0 0]).alloc (.cells #[.slice f1 Y1.length f2,.slice f3 Y2.length f4] 23);simpa using h,((aao (wo.alloc (.cells #[.int .i64 ek,.int .i64 ev,.slice f1 Y1.length f2,.slice f3 Y2.length f4] 102)) (wo.heap.size+1) (wo.heap.size+1) (by simp) (by simp)).keep (aH _ _)).keep (aH _ _)⟩
       have amI:Bk ((((wo.alloc (.cells #[.int .i64 ek,.int .i64 ev,.slice f1 Y1.length f2,.slice f3 Y2.length f4] 102)).alloc (.cells #[] 3)).alloc (.cells #[.slice (some ⟨wo.heap.size+1,0,none⟩) 0 0] 23)).alloc (.cells #[.slice f1 Y1.length f2,.slice f3 Y2.length f4] 23)) (wo.heap.size+1+1+1) 23 #[.slice f1 Y1.length f2,.slice f3 Y2.length f4]:=by
        have h:=Bk.new (((wo.alloc (.cells #[.int .i64 ek,.int .i64 ev,.slice f1 Y1.length f2,.slice f3 Y2.length f4] 102)).alloc (.cells #[] 3)).alloc (.cells #[.slice (some ⟨wo.heap.size+1,0,none⟩) 0 0] 23)) 23 #[.slice f1 Y1.length f2,.slice f3 Y2.length f4];simpa using h
       have hj:=aap (.slice (some ⟨wo.heap.size+1+1+1,0,none⟩) 2 2) [Y1,Y2] ((((wo.alloc (.cells #[.int .i64 ek,.int .i64 ev,.slice f1 Y1.length f2,.slice f3 Y2.length f4] 102)).alloc (.cells #[] 3)).alloc (.cells #[.slice (some ⟨wo.heap.size+1,0,none⟩) 0 0] 23)).alloc (.cells #[.slice f1 Y1.length f2,.slice f3 Y2.length f4] 23)) (ac0 amI (HI2.out.1.keep hBc) (HI2.out.2.keep hBc)) (by simp) (by simp;omega);rw[show[Y1,Y2].flatten=Y1++Y2 by simp]at hj;obtain⟨I,agD⟩:∃I,Y1++Y2=I:=⟨_,rfl⟩
       rw[agD]at hj;have QA:=Za agD;clear agD;have HJ:=Za hj;have HN3:=Za (Zb OM (Zb hBc (show((((wo.alloc (.cells #[.int .i64 ek,.int .i64 ev,.slice f1 Y1.length f2,.slice f3 Y2.length f4] 102)).alloc (.cells #[] 3)).alloc (.cells #[.slice (some ⟨wo.heap.size+1,0,none⟩) 0 0] 23)).alloc (.cells #[.slice f1 Y1.length f2,.slice f3 Y2.length f4] 23)).heap.size=wo.heap.size+4 by simp)));clear hj OM hBa hBb hBc amI aQ;go_wp2_with fail
       refine HJ.out.mono ?_;rintro e w5⟨vI,rfl,hrI,bH⟩;obtain⟨ia,ic,rfl⟩:=hrI.slice;have iV:=HN3.out.2.1.trans (bH.mono HN3.out.2.1.size);have CJ:=HN3.out.2.2;have hs5:=bH.size;have W_:=HN3.out.1.keep bH;have kE5:=HO.out.2.2.2.keep iV;rw[CJ]at hrI hs5;clear HJ HN3 x0 x1 x2 x3 xz CJ bH c0 c1 c2 c3 hcz k1 k9 kz2;obtain⟨E0,-,xz⟩:=kE5.cell;have x2:=E0 2;have x3:=E0 3;simp only[Ze,Zc,Zd]at x2 x3;clear E0;have hBd:=iV.trans ((aH w5 (.cells #[.slice e1 X1.length e2,.slice e3 X2.length e4] 23)).mono iV.size);have LX:=HO.out.1.bu.trans (hBd.mono HO.out.1.bu.size);have hj:=aap (.slice (some ⟨w5.heap.size,0,none⟩) 2 2) [X1,X2] (w5.alloc (.cells #[.slice e1 X1.length e2,.slice e3 X2.length e4] 23)) (ac0 (Bk.new w5 23 #[.slice e1 X1.length e2,.slice e3 X2.length e4]) (HI.out.1.keep LX) (HI.out.2.keep LX)) (by simp) (by simp;omega);rw[show[X1,X2].flatten=X1++X2 by simp]at hj;obtain⟨L,agE⟩:∃L,X1++X2=L:=⟨_,rfl⟩
       rw[agE]at hj;have HLD:=Za agE;clear agE;have HJ:=Za hj;have OH:=Za (Zb (W_.keep (aH w5 (.cells #[.slice e1 X1.length e2,.slice e3 X2.length e4] 23))) (Zb hBd (Zb (hrI.keep (aH w5 (.cells #[.slice e1 X1.length e2,.slice e3 X2.length e4] 23))) (Zh hrI))));clear hj W_ hBd LX hrI kE5 iV;go_wp2_with fail
       refine HJ.out.mono ?_;rintro e w7⟨vL,rfl,KT,dA⟩;obtain⟨la,lc,rfl⟩:=KT.slice;have iy:=OH.out.2.1.trans (dA.mono OH.out.2.1.size);have hN7:=OH.out.1.keep dA;have amJ:=OH.out.2.2.1.keep dA;have D6:(w5.alloc (.cells #[.slice e1 X1.length e2,.slice e3 X2.length e4] 23)).heap.size=w5.heap.size+1:=by simp
       have wW:=dA.size;rw[D6]at KT wW;have amK:=OH.out.2.2.2;have KQ:=HQ.out.mq.ar _ HXM.out _ HY.out.2 rfl;simp only at KQ;have HLI:=Za (show L.length=I.length by rw[<-HLD.out,<-QA.out,Zk,Zk];omega);have rE:=Za (show tJ ⟨ek,ev,X1,X2⟩ ⟨ek,ev,Y1,Y2⟩=(L.map Int.toNat).zip I by rw[<-HLD.out,<-QA.out];rfl);have Fh:L.length<=4:=by rw[<-HLD.out,Zk];omega
       have Oy:=HQ.out.mq.SL _ HXM.out;have hgr:=HQ.out.mq.grg _ HY.out.2;simp only at Oy hgr;rw[HLD.out]at Oy;rw[QA.out]at hgr;have yO:=Za (Zb Oy hgr);have hS7:=HO.out.1.keep iy;have JC:Rw w7 (wo.heap.size+1) (.slice la L.length lc) L:=KT.mono (by omega);have hI7:Rw w7 (wo.heap.size+1) (.slice ia I.length ic) I:=amJ.mono (by omega);have amL:∀j,(Value.slice (some ⟨wo.heap.size+1,0,none⟩) 0 0).ownBlock=some j->(Value.slice la L.length lc).ownBlock≠some j/\(Value.slice ia I.length ic).ownBlock≠some j:=λj hj=>by
        simp only[Value.ownBlock,ZQ]at hj;subst hj;exact⟨λh=>by have:=(Zh KT _ h).1;omega,λh=>by have:=(amK _ h).1;omega⟩
       have hold:=HO.out.1.old;clear HJ OH dA KT amJ Oy hgr KQ xz x2 x3 D6;go_wp2_with fail
       go_loopg [84] (L.length) (λk2 iv wr=>∃(nn:Nat) (Ci nt:List Int) (vn:Value),nn+k2=L.length/\iv=.int .i64 nn/\Fv W V A q.ah.length B wr Ci/\Hid (mY ws (((L.map Int.toNat).zip I).take nn)=some Ci)/\Gp ws Ci nt/\nt.length<=nn/\Dt wr (wo.heap.size+1+1) (wo.heap.size+1) vn nt/\(∀j,vn.ownBlock=some j->wo.heap.size<=j/\(Value.slice la L.length lc).ownBlock≠some j/\(Value.slice ia I.length ic).ownBlock≠some j)/\Rw wr (wo.heap.size+1) (.slice la L.length lc) L/\Rw wr (wo.heap.size+1) (.slice ia I.length ic) I/\aC (Ei A V) wo wr)
       case atStart=>exact⟨0,ws,[],_,by omega,rfl,hS7.wt,Za (by simp[mY]),Gp.start ws,by simp,hN7,λj hj=>⟨by simp only[Value.ownBlock,ZQ]at hj;omega,amL j hj⟩,JC,hI7,(aC.refl _ _).below iy⟩
       case round =>
        clear hN7 amL JC hI7 hS7 iy wW hs5 amK;obtain⟨nn,Ci,nt,vn,FY,rfl,hW,HST,sV,awN,hN,pV,hL,hI,hE⟩:=hrel;cases gk with
        | zero =>
         obtain rfl:nn=L.length:=by omega
         have hst:=HST.out;have SH:(((L.map Int.toNat).zip I)).length=L.length:=by have:=HLI.out;simp;omega
         rw[ZX (by omega)]at hst;have hS8:=HO.out.1.sets hW hE;obtain⟨d,hea,p0,pf,L_⟩:=hS8.ac3 hiq (f:Int);have hdo:d<wo.heap.size:=hold d (.inr (.inl (by unfold jV.ve;rw[hea];rfl)));obtain⟨K0,-,kz9⟩:=hW.kk.cell;have k9:=K0 9;simp only[Ze,Zc,Zd]at k9;rw[hea]at k9;clear K0;have dz:=cell_lt p0;have hN9:Dt (wr.setCell ⟨d,i,none⟩ (.int .i64 (f:Int))) (wo.heap.size+1+1) (wo.heap.size+1) vn nt:=⟨hN.kn.other _ _ (by simp only;omega),eP hN.rn _ _ (λe=>by have:=(pV d e).1;omega)⟩
         have OQ:aC (Fz A V q.ah.length sZ) wo (wr.setCell ⟨d,i,none⟩ (.int .i64 (f:Int))):=yF (yF (aC.refl (Fz A V q.ah.length sZ) wo) hE (λj hj=>.inl (Ei.im hj))) (bF (T:=λj=>j=d) (a:=⟨d,i,none⟩) (aC.refl (λj=>j=d) wr) (.inr rfl) (.int .i64 (f:Int))) (λj hj=>.inl (.inr (.inl (by unfold jV.ve;rw[hea,hj];rfl))));have LZ:=HIH.out (i+1) Ci (es1.set i (f:Int)) ms1 sZ _ (by omega) L_ sN;have k_:(es1.set i (f:Int)).take (i+1)=es.take i++[(f:Int)]:=by rw[auF es1 i _ (by rw[hS8.el];exact hiq),HT.out]
         rw[k_]at LZ;have Ht:F f=wM g q r Ci (es.take i++[(f:Int)]):=by
          rw[HFF.out,ZH (by rw[<-HT.out];simp[HC1.out]),rE.out,hst]
         rw[<-Ht]at LZ;have hi1:(i:Int)+1=((i+1:Nat):Int):=by omega
         rw[<-hi1]at LZ;have abC:=Za LZ;have HZ9:=Za (Zb hN9 (Zb OQ (Zb sV k_)));have hiL:(i:Int)<(q.ah.length:Int):=by omega
         have awO:wo.heap.size<=(wr.setCell ⟨d,i,none⟩ (.int .i64 (f:Int))).heap.size:=OQ.size;clear LZ hN9 OQ sV k_ Ht hS8 L_ hst SH hW hN hL hI hE hi1;go_wp2_with fail
         refine abC.out.mono ?_;rintro e w10⟨Ii,L6,he,agF,agG,amM,amN⟩;obtain⟨b,hb⟩:∃b,decide ((ms1++F f).length<M)=b:=⟨_,rfl⟩
         rw[hb]at he;subst he;have HB:=Za hb;clear hb p0 pf dz k9 kz9;have agH:=HZ9.out.1.exc agG (U:=wo.heap.size) hold (by omega) (λj hj=>(pV j hj).1);have OO:=agA W V A q.ah.length B (wo.heap.size+1) vn ws Ci nt w10 agF.wt agH.rn (λj hj e=>by
          have:=hold j (.inl hj);have:=(pV j e).1;omega) (λe=>by
          have:=hold A.b3 (.inr (.inr (.inl rfl)));have:=(pV _ e).1;omega) HZ9.out.2.2.1 (by omega)
         obtain⟨N0,-,nz⟩:=agH.kn.cell;have n0:=N0 0;simp only[Ze,Zc,Zd]at n0;have HU:=Za OO;have Y_:=Za (Zb agF (Zb agG (Zb amM amN)));clear N0 OO agH agF agG amM amN abC;go_wp2_with fail
         refine HU.out.mono ?_;rintro e Uf⟨rfl,agI,adE⟩;have abD:=Y_.out.1.sets agI adE;have Mc:aC (Fz A V q.ah.length sZ) wo Uf:=yF (yF HZ9.out.2.1 Y_.out.2.1 (λj hj=>.inl hj)) adE (λj hj=>.inl (Ei.im hj));have agJ:=HO.out.2.2.2.exc Mc (HO.out.1.amH HO.out.2.2.2 (by decide) (by decide) (by decide) (by decide));have L9:aC (Fz A V q.ah.length vo) w Uf:=yF HO.out.2.1 Mc (λj hj=>by
          rcases hj with e|e|e|e|e
          ·exact .inl (.inl e)
          ·exact .inl (.inr (.inl e))
          ·exact .inl (.inr (.inr (.inl e)))
          ·exact .inl (.inr (.inr (.inr (.inl e))))
          ·rcases HO.out.2.2.1 with h|h
           ·exact .inl (.inr (.inr (.inr (.inr (h▸e)))))
           ·exact .inr (h j e))
         have L8:Ii.ownBlock=vo.ownBlock\/∀j,Ii.ownBlock=some j->w.heap.size<=j:=by
          rcases Y_.out.2.2.1 with e|e
          ·rw[e];exact HO.out.2.2.1
          ·exact .inr λj hj=>by
            have:=e j hj;have:=HO.out.2.1.size;omega
         have RI:L6.take i=es.take i:=by
          have h:=congrArg (List.take i) Y_.out.2.2.2;rw[Wq,Wq,YR (by omega)]at h;rw[h,XT (Zj _)];exact HT.out
         cases b with
         | true =>
          have hlen:=Wv HB.out;have HK:=Za (Zb (show ms1++F f=ms++(List.range (f+1)).flatMap F by rw[RG,<-Zz,<-rY.out]) (Zb hlen (Zb (show su g q W V M A B B2 u0 Uf Ii ws L6 (ms1++F f)by rw[ZX (by omega)]at abD;exact abD) (Zb L9 (Zb L8 (Zb RI agJ))))));clear abD Mc agJ L9 L8 RI Y_ HU HZ9 n0 nz agI adE hlen;go_wp2
          go_roundg gg
          case measure=>omega
          case rel=>exact⟨f+1,_,Ii,L6,by omega,by go_num,Za HK.out.1,HK.out.2.1,HK.out.2.2.1,HK.out.2.2.2.1,HK.out.2.2.2.2.1,Za HK.out.2.2.2.2.2.1,HK.out.2.2.2.2.2.2⟩
         | false =>
          have hlen:=of_decide_eq_false HB.out;have HP:Hid (OJ g q W V M A B B2 u0 vo ws es ms ((List.range g.ah.length).flatMap F) i w (.returned (.bool false)) Uf):=Za (by
           obtain⟨r',hr'⟩:=amE F f g.ah.length hlt;have hall:ms++(List.range g.ah.length).flatMap F=(ms1++F f)++r':=by rw[hr',rY.out];simp only[Zz]
           refine⟨Ii,L6,?_,?_,L9,L8,RI⟩
           ·rw[hall,YH (by rw[Zk];omega)]
           ·rw[hall,Xl (by omega)];exact abD)
          clear abD Mc agJ L9 L8 RI Y_ HU HZ9 n0 nz agI adE hlen;go_wp2
          try rw[VS]
          go_ret;exact HP.out
        | succ g2 =>
         have amO:nn<L.length:=by omega
         have Ul:nn<I.length:=by have:=HLI.out;omega
         obtain⟨lb,lo,rfl,d0⟩:=ints_at hL.at (i:=nn) amO;obtain⟨ib,io,rfl,d1⟩:=ints_at hI.at (i:=nn) Ul;have hr1:=yO.out.1 _ (Zp amO);have hr2:=yO.out.2 _ (Zp Ul);obtain⟨a,ha⟩:∃a:Nat,L[nn]=(a:Int):=⟨L[nn].toNat,by omega⟩
         obtain⟨v,hv⟩:∃v:Nat,I[nn]=(v:Int):=⟨I[nn].toNat,by omega⟩
         rw[ha]at d0 hr1;rw[hv]at d1 hr2;have hpn:((L.map Int.toNat).zip I).take (nn+1)=((L.map Int.toNat).zip I).take nn++[(a,(v:Int))]:=by
          rw[Zv (by simp;omega)];simp[ha,hv]
         have cZ:=amB W V A q.ah.length B (wo.heap.size+1+1) (wo.heap.size+1) vn Ci nt a v wr hW hN (λj hj e=>by
          have:=hold j (.inl hj);have:=(pV j e).1;omega) (by omega) (by omega) (by omega) (by have:=hN.kn.lt;omega)
         have awP:(nn:Int)<(L.length:Int):=by omega
         have dz0:=cell_lt d0;have dz1:=cell_lt d1;have Rz:=Za cZ;have HAV:=Za (Zb ha hv);have HPN:=Za hpn;have BI:=Za (Zb hW (Zb sV (Zb hN (Zb hL (Zb hI hE)))));clear cZ ha hv hpn hW hN hL hI hE sV;go_wp2_with fail
         refine Rz.out.mono ?_;rintro e w8⟨b,rfl,hnone,hsome⟩;clear d0 d1 dz0 dz1;cases hs:setW Ci a (v:Int)with
         | none =>
          obtain⟨hb0,dY⟩:=hnone hs;have auI:=dY.symm;subst hb0 auI;have OO:=agA W V A q.ah.length B (wo.heap.size+1) vn ws Ci nt wr BI.out.1 BI.out.2.2.1.rn (λj hj e=>by
           have:=hold j (.inl hj);have:=(pV j e).1;omega) (λe=>by
           have:=hold A.b3 (.inr (.inr (.inl rfl)));have:=(pV _ e).1;omega) BI.out.2.1 (by omega)
          obtain⟨N0,-,nz⟩:=BI.out.2.2.1.kn.cell;have n0:=N0 0;simp only[Ze,Zc,Zd]at n0;have hnil:F f=[]:=by
           rw[HFF.out,ZH (by rw[<-HT.out];simp[HC1.out]),rE.out];have h1:mY ws (((L.map Int.toNat).zip I).take (nn+1))=none:=by rw[HPN.out,afg,HST.out];exact hs
           have h2:=ajs ws _ (((L.map Int.toNat).zip I).drop (nn+1)) h1;rw[Yr]at h2;rw[h2]
          have Us:=Za hnil;have HU:=Za OO;clear N0 OO hnil hs hnone hsome Rz dY;go_wp2_with fail
          refine HU.out.mono ?_;rintro e w9⟨rfl,hW9,OQ⟩;have Mc:=yF BI.out.2.2.2.2.2 OQ (λj hj=>.inl hj);have HK:=Za (Zb (show ms1=ms++(List.range (f+1)).flatMap F by rw[RG,Us.out,ZZ];exact rY.out) (Zb (HO.out.1.sets hW9 Mc) (Zb (yF HO.out.2.1 Mc (λj hj=>.inl (Ei.im hj))) (HO.out.2.2.2.exc Mc (λht=>HO.out.1.amH HO.out.2.2.2 (by decide) (by decide) (by decide) (by decide) (Ei.im ht))))));clear Mc hW9 OQ HU n0 nz;go_wp2
          go_roundg gg
          case measure=>omega
          case rel=>exact⟨f+1,ms1,sZ,es1,by omega,by go_num,Za HK.out.1,sN,HK.out.2.1,HK.out.2.2.1,HO.out.2.2.1,HT,HK.out.2.2.2⟩
         | some ws2 =>
          obtain⟨rfl,vn2,hW2,J6,amP,tX⟩:=hsome _ hs;have amQ:aC (Ei A V) wo w8:=yF BI.out.2.2.2.2.2 tX (λj hj=>by
           rcases hj with e|e|e|e
           ·exact .inl (.inl e)
           ·exact .inl (.inr e)
           ·exact .inr (by omega)
           ·exact .inr (pV j e).1)
          have rwk:∀{u:Value} {zs:List Int},Rw wr (wo.heap.size+1) u zs->(∀j,vn.ownBlock=some j->u.ownBlock≠some j)->Rw w8 (wo.heap.size+1) u zs:=λhr hne=>xZ tX hr (λj hj ht=>by
           have gV:=(Zh hr j hj).1;rcases ht with e|e|e|e
           ·have:=hold j (.inl e);omega
           ·have:=hold j (.inr (.inr (.inl e)));omega
           ·exact cO hr BI.out.2.2.1.kn (by decide) (e▸hj)
           ·exact hne j e hj)
          have hL2:=rwk BI.out.2.2.2.1 (λj hj=>(pV j hj).2.1);have hI2:=rwk BI.out.2.2.2.2.1 (λj hj=>(pV j hj).2.2);have hwr:=BI.out.2.2.2.2.2.size;have amR:∀j,vn2.ownBlock=some j->wo.heap.size<=j/\(Value.slice (some ⟨lb,lo,none⟩) L.length lc).ownBlock≠some j/\(Value.slice (some ⟨ib,io,none⟩) I.length ic).ownBlock≠some j:=λj hj=>by
           rcases amP with e|e
           ·exact pV j (e▸hj)
           ·have h1:=e j hj;exact⟨by omega,λh=>by have:=(Zh BI.out.2.2.2.1 j h).2;omega,λh=>by have:=(Zh BI.out.2.2.2.2.1 j h).2;omega⟩
          have amS:=BI.out.2.1.set (w:=a) (v:=(v:Int)) (by rw[BI.out.1.wl];omega) (by omega) hs;have dK:mY ws (((L.map Int.toNat).zip I).take (nn+1))=some ws2:=by rw[HPN.out,afg,HST.out];exact hs
          have amT:(nt++notE Ci a).length<=nn+1:=by
           rw[Zk];unfold notE;split<;>simp<;>omega
          have HK:=Za (Zb hW2 (Zb dK (Zb amS (Zb amT (Zb J6 (Zb amR (Zb hL2 (Zb hI2 amQ))))))));clear hW2 dK amS amT J6 amR hL2 hI2 amQ tX amP rwk hs hnone hsome Rz BI;go_wp2
          go_roundg g2
          case measure=>omega
          case rel=>exact⟨nn+1,ws2,_,vn2,by omega,by go_num,HK.out.1,Za HK.out.2.1,HK.out.2.2.1,HK.out.2.2.2.1,HK.out.2.2.2.2.1,HK.out.2.2.2.2.2.1,HK.out.2.2.2.2.2.2.1,HK.out.2.2.2.2.2.2.2.1,HK.out.2.2.2.2.2.2.2.2⟩
      ·have HK:=Za (Zb (show ms1=ms++(List.range (f+1)).flatMap F by rw[RG,HFF.out,ZE (.inr (.inr hc3)),ZZ];exact rY.out) (HO.out.1.keep aQ));have kE1:=HO.out.2.2.2.keep aQ;have OG:=HO.out.2.1.below aQ;have hb1:(ev==xv)=false:=Yu.2 hc3;subst hc2;clear c2 c3 x2 x3 k1 k9;go_wp2
       go_roundg gg
       case measure=>omega
       case rel=>exact⟨f+1,ms1,sZ,es1,by omega,by go_num,Za HK.out.1,sN,HK.out.2,OG,HO.out.2.2.1,HT,kE1⟩
     ·have HK:=Za (Zb (show ms1=ms++(List.range (f+1)).flatMap F by rw[RG,HFF.out,ZE (.inr (.inl hc2)),ZZ];exact rY.out) (HO.out.1.keep aQ));have kE1:=HO.out.2.2.2.keep aQ;have OG:=HO.out.2.1.below aQ;have hb1:(ek==xk)=false:=Yu.2 hc2;clear c2 c3 x2 x3 k1 k9;go_wp2
      go_roundg gg
      case measure=>omega
      case rel=>exact⟨f+1,ms1,sZ,es1,by omega,by go_num,Za HK.out.1,sN,HK.out.2,OG,HO.out.2.2.1,HT,kE1⟩
theorem auJ (W V:Nat):Bv W (List.replicate V (-1))=List.replicate W false:=by
 refine YT (by simp[Bv]) λk h1 h2=>?_;rw[TY,Z9];simp
theorem auK:(Tryz.prog.info? 4).map (λi=>(i.zero,i.size,i.bytes))=some (some (.bool false),1,1):=by kernel_rfl
theorem auL {ops:Array Oper} {Q:Exit->Act->World->Prop} {T:Nat->Prop} {w0:World} {i:Nat} {l:List Nat} {bs:Nat->Prop} {a:Act} {w:World} {o:Oper} (ho:ops[i]?=some o) (hk:jW o=.make) (hg:o.guard=none) (hC:aC T w0 w) (x y:Operand)
  (hop:o.op=Op.makeSlice 149 x y) (n:Nat) (hx:a.eval x=.int .i64 n) (hy:a.eval y=.int .i64 n) (hn:n<=1000000)
  (h:∀K:(Nat->Prop)->Act->World->Prop,(∀bs a w,WX Tryz.prog ops (aC T w0) w0.heap.size Q l bs a w->K bs a w)->∀b w',aC T w0 w'->Below w.heap.size w w'->w0.heap.size<=b->¬bs b->um w' b (List.replicate n false) ->
   K (λk=>k=b\/bs k) (a.put o.dst (.slice (some ⟨b,0,none⟩) n n)) w'):WX Tryz.prog ops (aC T w0) w0.heap.size Q (i::l) bs a w:=by
 obtain⟨i0,hi,hz0,hz1,hz2⟩:=Yg auK;refine ku ho hk hg (aC.aJ _ _) hC (λb=>.slice (some ⟨b,0,none⟩) n n) (λK hK=>?_);refine⟨.cells (madeCells (nN false).toArray (n*1)) 4,λw' hw'=>?_,λb w' hw' hb aW hN JF=>h K hK b w' hw' hb hN JF ?_⟩
 ·have hrun:=run_make (P:=Tryz.prog) (w:=w') 149 4 i0 _ Tryz.underlying149 hi hz0 .i64 .i64 n n (by omega) (Wx _) (by rw[hz2];omega) (by omega);rw[hz1]at hrun;simp only[Zr]at hrun;simp[execOp,hop,hx,hy,hrun,Result.andThen];first|done|rfl
 ·have hz:=vZ (f:=nN) false n (sz:=1) (by omega) rfl;have hsz:(madeCells (nN false).toArray (n*1)).size=n*1:=size_madeCells _ _;refine asW (B:=0) (n:=n) (by simp) ?_;rw[<-hz];exact⟨by simpa using hsz,.inr ⟨b,n,_,rfl,Zw _,aW,Zj _,by unfold maxLen;omega,hsz,ZX (by rw[Wp,hsz];exact Zj _)⟩⟩
theorem auM (g q:aF) (W V M:Nat) (hq:KO g q W V) (vg gi go vq qi qo:Value) (w:World) (hG:oM w vg g.ah) (hQ:oM w vq q.ah) (hM:M<=100) (U_:0<M) :
  Calls Tryz.prog 62 #[.agg #[.int .i64 (W:Int),vg,gi,go],.agg #[.int .i64 (V:Int),vq,qi,qo],.int .i64 (M:Int)] w (MaA ((xU g q).take M) w):=by
 obtain⟨ga,gc,rfl⟩:=hG.slice;obtain⟨qa,qc,rfl⟩:=hQ.slice;have hb1:=aH w (.cells #[.int .i64 (W:Int),.slice ga g.ah.length gc,gi,go] 33);have hb2:=hb1.trans ((aH (w.alloc (.cells #[.int .i64 (W:Int),.slice ga g.ah.length gc,gi,go] 33)) (.cells #[.int .i64 (V:Int),.slice qa q.ah.length qc,qi,qo] 33)).mono hb1.size);have hb3:=hb2.trans ((aH ((w.alloc (.cells #[.int .i64 (W:Int),.slice ga g.ah.length gc,gi,go] 33)).alloc (.cells #[.int .i64 (V:Int),.slice qa q.ah.length qc,qi,qo] 33)) (.cells #[.int .i64 (M:Int)] 3)).mono hb2.size);have hb4:=hb3.trans ((aH (((w.alloc (.cells #[.int .i64 (W:Int),.slice ga g.ah.length gc,gi,go] 33)).alloc (.cells #[.int .i64 (V:Int),.slice qa q.ah.length qc,qi,qo] 33)).alloc (.cells #[.int .i64 (M:Int)] 3)) (.cells #[] 77)).mono hb3.size);have bH:=hb4.trans ((aH ((((w.alloc (.cells #[.int .i64 (W:Int),.slice ga g.ah.length gc,gi,go] 33)).alloc (.cells #[.int .i64 (V:Int),.slice qa q.ah.length qc,qi,qo] 33)).alloc (.cells #[.int .i64 (M:Int)] 3)).alloc (.cells #[] 77)) (.cells #[.slice (some ⟨w.heap.size+3,0,none⟩) 0 0] 97)).mono hb4.size);have kM:Bk (((((w.alloc (.cells #[.int .i64 (W:Int),.slice ga g.ah.length gc,gi,go] 33)).alloc (.cells #[.int .i64 (V:Int),.slice qa q.ah.length qc,qi,qo] 33)).alloc (.cells #[.int .i64 (M:Int)] 3)).alloc (.cells #[] 77)).alloc (.cells #[.slice (some ⟨w.heap.size+3,0,none⟩) 0 0] 97)) (w.heap.size+2) 3 #[.int .i64 (M:Int)]:=by
  have h:=((Bk.new ((w.alloc (.cells #[.int .i64 (W:Int),.slice ga g.ah.length gc,gi,go] 33)).alloc (.cells #[.int .i64 (V:Int),.slice qa q.ah.length qc,qi,qo] 33)) 3 #[.int .i64 (M:Int)]).alloc (.cells #[] 77)).alloc (.cells #[.slice (some ⟨w.heap.size+3,0,none⟩) 0 0] 97);simpa using h
 have kO:Bk (((((w.alloc (.cells #[.int .i64 (W:Int),.slice ga g.ah.length gc,gi,go] 33)).alloc (.cells #[.int .i64 (V:Int),.slice qa q.ah.length qc,qi,qo] 33)).alloc (.cells #[.int .i64 (M:Int)] 3)).alloc (.cells #[] 77)).alloc (.cells #[.slice (some ⟨w.heap.size+3,0,none⟩) 0 0] 97)) (w.heap.size+4) 97 #[.slice (some ⟨w.heap.size+3,0,none⟩) 0 0]:=by
  have h:=Bk.new ((((w.alloc (.cells #[.int .i64 (W:Int),.slice ga g.ah.length gc,gi,go] 33)).alloc (.cells #[.int .i64 (V:Int),.slice qa q.ah.length qc,qi,qo] 33)).alloc (.cells #[.int .i64 (M:Int)] 3)).alloc (.cells #[] 77)) 97 #[.slice (some ⟨w.heap.size+3,0,none⟩) 0 0];simpa using h
 have kG:Bk (((((w.alloc (.cells #[.int .i64 (W:Int),.slice ga g.ah.length gc,gi,go] 33)).alloc (.cells #[.int .i64 (V:Int),.slice qa q.ah.length qc,qi,qo] 33)).alloc (.cells #[.int .i64 (M:Int)] 3)).alloc (.cells #[] 77)).alloc (.cells #[.slice (some ⟨w.heap.size+3,0,none⟩) 0 0] 97)) w.heap.size 33 #[.int .i64 (W:Int),.slice ga g.ah.length gc,gi,go]:=by
  have h:=((((Bk.new w 33 #[.int .i64 (W:Int),.slice ga g.ah.length gc,gi,go]).alloc (.cells #[.int .i64 (V:Int),.slice qa q.ah.length qc,qi,qo] 33)).alloc (.cells #[.int .i64 (M:Int)] 3)).alloc (.cells #[] 77)).alloc (.cells #[.slice (some ⟨w.heap.size+3,0,none⟩) 0 0] 97);exact h
 have kQ:Bk (((((w.alloc (.cells #[.int .i64 (W:Int),.slice ga g.ah.length gc,gi,go] 33)).alloc (.cells #[.int .i64 (V:Int),.slice qa q.ah.length qc,qi,qo] 33)).alloc (.cells #[.int .i64 (M:Int)] 3)).alloc (.cells #[] 77)).alloc (.cells #[.slice (some ⟨w.heap.size+3,0,none⟩) 0 0] 97)) (w.heap.size+1) 33 #[.int .i64 (V:Int),.slice qa q.ah.length qc,qi,qo]:=by
  have h:=(((Bk.new (w.alloc (.cells #[.int .i64 (W:Int),.slice ga g.ah.length gc,gi,go] 33)) 33 #[.int .i64 (V:Int),.slice qa q.ah.length qc,qi,qo]).alloc (.cells #[.int .i64 (M:Int)] 3)).alloc (.cells #[] 77)).alloc (.cells #[.slice (some ⟨w.heap.size+3,0,none⟩) 0 0] 97);simpa using h
 have D6:(((((w.alloc (.cells #[.int .i64 (W:Int),.slice ga g.ah.length gc,gi,go] 33)).alloc (.cells #[.int .i64 (V:Int),.slice qa q.ah.length qc,qi,qo] 33)).alloc (.cells #[.int .i64 (M:Int)] 3)).alloc (.cells #[] 77)).alloc (.cells #[.slice (some ⟨w.heap.size+3,0,none⟩) 0 0] 97)).heap.size=w.heap.size+5:=by simp
 have abz:(((((w.alloc (.cells #[.int .i64 (W:Int),.slice ga g.ah.length gc,gi,go] 33)).alloc (.cells #[.int .i64 (V:Int),.slice qa q.ah.length qc,qi,qo] 33)).alloc (.cells #[.int .i64 (M:Int)] 3)).alloc (.cells #[] 77)).alloc (.cells #[.slice (some ⟨w.heap.size+3,0,none⟩) 0 0] 97)).ownsRow w.heap.size 77 2 (.slice (some ⟨w.heap.size+3,0,none⟩) 0 0) 0 []:=by
  have h:=X6 (base:=w.heap.size) (size:=2) (e:=77) (((w.alloc (.cells #[.int .i64 (W:Int),.slice ga g.ah.length gc,gi,go] 33)).alloc (.cells #[.int .i64 (V:Int),.slice qa q.ah.length qc,qi,qo] 33)).alloc (.cells #[.int .i64 (M:Int)] 3)) #[] 0 (by simp;omega) (by unfold maxLen;omega) rfl;have h2:=jL (aH _ (.cells #[.slice (some ⟨w.heap.size+3,0,none⟩) 0 0] 97)) h;simpa using h2
 have Nu:=Za abz;have I_:=hq.nG;have EM:=hq.nQ;have Ae:=hq.nV;have hnW:=hq.nW;have HQ:=Za hq;have Ou:=Za (Zb hG hQ);clear hb1 hb2 hb3 hb4 hq hG hQ abz;go_enter Tryz.func62,Tryz.ntmps62;go_wp2_with fail
 generalize(((((w.alloc (.cells #[.int .i64 (W:Int),.slice ga g.ah.length gc,gi,go] 33)).alloc (.cells #[.int .i64 (V:Int),.slice qa q.ah.length qc,qi,qo] 33)).alloc (.cells #[.int .i64 (M:Int)] 3)).alloc (.cells #[] 77)).alloc (.cells #[.slice (some ⟨w.heap.size+3,0,none⟩) 0 0] 97))=u1 at *;obtain⟨G0,-,gz⟩:=kG.cell;have g1:=G0 1;have g2:=G0 2;have g3:=G0 3;have g0:=G0 0;obtain⟨Q0,-,qz⟩:=kQ.cell;have q1:=Q0 1;have q2:=Q0 2;have q3:=Q0 3;have q0:=Q0 0;simp only[Ze,Zc,Zd]at g0 g1 g2 g3 q0 q1 q2 q3;clear G0 Q0;have fH:∀{w':World},aC dD u1.drew w'->Below u1.heap.size u1 w':=λh=>(Zl u1.heap.size u1).drew.trans (h.toBelow.mono (by simp));refine h_ (C:=aC (dD) _) 12 [0,1,2,3,4,5,6,7,8,9,10,11,12,13,14] (by kernel_rfl) (by kernel_rfl) (aC.aJ _ _) (aC.refl _ _) ?_;iterate 4 (apply dh rfl rfl rfl;(focus intro u hc' hf';go_simp<;>rfl);intro K hK;go_simp;apply hK;clear hK K)
 refine fD rfl rfl rfl (aC.aJ _ _) (aC.refl _ _) 90 (λK hK=>?_);apply Zq;refine⟨λw' hw'=>?_,λwa bT bZ=>?_⟩;(focus go_simp;rfl);refine(ajt (-1) V _ (by omega)).mono ?_;rintro e w3⟨v3,rfl,hr3,hb3⟩;refine⟨_,rfl,hb3,λhx=>?_⟩;go_simp;apply hK;clear hK K;obtain⟨a3,c3,e3⟩:=hr3.slice;rw[Yi]at e3;subst e3;iterate 3 (apply dh rfl rfl rfl;(focus intro u hc' hf';go_simp<;>rfl);intro K hK;go_simp;apply hK;clear hK K)
 refine fD rfl rfl rfl (aC.aJ _ _) (hx) 91 (λK hK=>?_);apply Zq;refine⟨λw' hw'=>?_,λwb dJ dH=>?_⟩;(focus go_simp;rfl);refine(ab3 q.ah.length _ (by omega)).mono ?_;rintro e w4⟨v4,rfl,hr4,hb4⟩;refine⟨_,rfl,hb4,λhx=>?_⟩;go_simp;apply hK;clear hK K;obtain⟨a4,c4,e4⟩:=hr4.slice;rw[Yi]at e4;subst e4;iterate 2 (apply dh rfl rfl rfl;(focus intro u hc' hf';go_simp<;>rfl);intro K hK;go_simp;apply hK;clear hK K)
 refine auL rfl rfl rfl hx _ _ rfl W rfl rfl (by omega) ?_;intro K hK b3 w6 jk aV OM Iu amU;go_simp;refine hK _ _ _ ?_;clear hK K;iterate 1 (apply dh rfl rfl rfl;(focus intro u hc' hf';go_simp<;>rfl);intro K hK;go_simp;apply hK;clear hK K)
 refine ku rfl rfl rfl (aC.aJ _ _) jk (λb=>.pointer (some ⟨b,0,none⟩)) (λK hK=>?_);apply Zq;refine⟨λw' hw'=>?_,λkb w7 f_ dA aW hNb d_=>?_⟩
 ·go_simp;rfl
 go_simp;refine hK _ _ _ ?_;clear hK K;iterate 1 (apply dh rfl rfl rfl;(focus intro u hc' hf';go_simp<;>rfl);intro K hK;go_simp;apply hK;clear hK K)
 refine dR ?_;have wY:=fH f_;have hu8:=wY.size;have kK:Bk w7 kb 152 #[.int .i64 (W:Int),.slice ga g.ah.length gc,gi,go,.int .i64 (V:Int),.slice qa q.ah.length qc,qi,qo,.slice a3 V c3,.slice a4 q.ah.length c4,.slice (some ⟨b3,0,none⟩) W W,.nilFunc]:=aW;have awQ:u1.heap.size<=kb:=by simpa using hNb
 have awR:u1.heap.size<=b3:=by simpa using OM
 have DX:=bZ.size;simp only[Zo]at DX;have Kt:=dH.size;have hs3:=hb3.size;have yC:=hb4.size;have II:=aV.size;have wW:=dA.size;have r3:=(((hr3.keep dH).keep hb4).keep aV).keep dA;have r4:=(hr4.keep aV).keep dA;have t3:=amU.keep dA;obtain⟨A,hA⟩:∃A:jV,A=⟨kb,b3,w.heap.size+4,w.heap.size+2,a3,c3,a4,c4,.slice ga g.ah.length gc,gi,go,.slice qa q.ah.length qc,qi,qo,.func (.func 92) #[] #[.pointer (some ⟨w.heap.size+4,0,none⟩),.pointer (some ⟨w.heap.size+2,0,none⟩)]⟩:=⟨_,rfl⟩
 have hS:su g q W V M A w.heap.size w7.heap.size w (w7.setCell ⟨kb,11,none⟩ (.func (.func 92) #[] #[.pointer (some ⟨w.heap.size+4,0,none⟩),.pointer (some ⟨w.heap.size+2,0,none⟩)])) (.slice (some ⟨w.heap.size+3,0,none⟩) 0 0) (List.replicate V (-1)) (List.replicate q.ah.length 0) []:=by
  subst hA;have hk8:=kK.set 11 (.func (.func 92) #[] #[.pointer (some ⟨w.heap.size+4,0,none⟩),.pointer (some ⟨w.heap.size+2,0,none⟩)]);have Ld:=λj hj=>Zh hr3 j hj;have hl4:=λj hj=>Zh hr4 j hj;have auN:=λj hj=>Zh r3 j hj;have afO:=λj hj=>Zh r4 j hj;have rr:=jL wY Nu.out;refine⟨⟨by simpa using hk8,?_,?_,by simp,(aj0 HQ.out.mq).pw⟩,?_,by simp,(kO.keep wY).other _ _ (by simp only;omega),(kM.keep wY).other _ _ (by simp only;omega),⟨[],rfl,?_,by simp,abB.nil⟩,λj hj=>?_,λj hj=>?_,⟨t3.lt,?_,λj hj=>(auN j hj).2,λj hj=>(afO j hj).2⟩,⟨?_,?_⟩,⟨Zj _,?_,by rw[YB];exact Zj _⟩,?_,rfl⟩
  ·exact Rw.mono (by omega) (eP r3 _ _ (cO r3 kK (by decide)))
  ·rw[auJ];exact Bk.other t3 _ _ (by simp only;exact X_ t3 kK (by decide))
  ·exact Rw.mono (by omega) (eP r4 _ _ (cO r4 kK (by decide)))
  ·exact eP rr _ _ (cO rr kK (by decide))
  ·have h1:=Ld j hj;exact⟨λh=>by have:=(hl4 j h).1;omega,by simp only;omega⟩
  ·have h1:=hl4 j hj;simp only;omega
  ·simp only;omega
  ·simp only;omega
  ·simp only;omega
  ·omega
  ·exact(bH.trans (wY.mono bH.size)).setCell (by simp only;omega) _
 have dL:=auG g q W V M A w.heap.size w7.heap.size w HQ.out hM (by rw[hA];exact Ou.out.1) (by rw[hA];exact Ou.out.2) q.ah.length 0 _ _ [] _ _ (by omega) hS (by simpa using U_);have sN:wM g q q.ah.length (List.replicate V (-1)) ((List.replicate q.ah.length (0:Int)).take 0)=xU g q:=by
  unfold xU;rw[HQ.out.mq.qw,Zr,Y5]
 rw[sN]at dL;have hkb:A.kb=kb:=by rw[hA]
 rw[hkb]at dL;have J5:A.bo=w.heap.size+4:=by rw[hA]
 obtain⟨K0,Kf,kz⟩:=kK.cell;have k11:=K0 11;have kf:=Kf 11;simp only[Ze,Zc,Zd]at k11;have AL:=Za dL;have HBO:=Za J5;clear K0 Kf dL hS sN hkb hA J5 kK aW r3 r4 t3 hr3 hr4 amU bZ dH bT dJ hb3 hb4 aV dA jk f_ hNb d_ OM Iu fH g0 g1 g2 g3 gz q0 q1 q2 q3 qz kM kO kG kQ hx bH wY;go_wp2_with fail
 refine AL.out.mono ?_;rintro e w9⟨vo9,es9,he,L_,OQ,hv9,-⟩;obtain⟨b,hb⟩:∃b,decide (([]++xU g q).length<M)=b:=⟨_,rfl⟩
 rw[hb]at he;subst he;clear hb;obtain⟨a9,c9,rfl⟩:=L_.ms.slice;have hko:=L_.ko;rw[HBO.out]at hko;obtain⟨K0,-,oz⟩:=hko.cell;have o0:=K0 0;simp only[Ze,Zc,Zd]at o0;have HP:=Za (show MaA ((xU g q).take M) w (.returned (.slice a9 (List.take M ([]++xU g q)).length c9)) w9 from⟨_,rfl,L_.ms.toA L_.bb.2.1,L_.bu⟩);clear K0 L_ OQ hv9 hko k11 kf kz;generalize(List.take M ([]++xU g q)).length=ln at *;go_wp2;go_ret;exact HP.out
end Go.Proofs.YtkhpobekconobaaGreat
