import Derived.Test.YtkhpobekconobaaGreatHAG
import Derived.Laws.IdiomStrings
set_option linter.all false
set_option maxRecDepth 100000
set_option maxHeartbeats 0
namespace Go.Proofs.YtkhpobekconobaaGreat
structure Iz (pj:aO->List Int) (E:List aO) (W:Nat) (fl:List Int):Prop where
 len:fl.length=W
 hit:∀e,e<E.length->∀w∈pj (E.getD e bQ),fl.getD w.toNat 0=(e:Int)
 no:∀w,w<W->fl.getD w 0=-1\/∃e,e<E.length/\fl.getD w 0=(e:Int)/\((w:Nat):Int)∈pj (E.getD e bQ)
theorem SQ {tz ks:List Int} {k:Int} (h:k∈ks):tz.getD k.toNat 0∈aG tz ks:=ZM.2 ⟨k,h,rfl⟩
theorem nbr {pj:aO->List Int} {g q:aF} {W V:Nat} (hq:lM g q W V) (hpj:pj=aO.aj\/pj=aO.ay) {fq fg:List Int} (h1:Iz pj q.ah V fq) (h2:Iz pj g.ah W fg) {x:aX} (hx:Ce g q x=true) {w:Nat} (hw:w<V) (h0:0<=fq.getD w 0) :
  x.ah.getD (fq.getD w 0).toNat 0=fg.getD (x.aB.getD w 0).toNat 0:=by
 rcases h1.no w hw with e|⟨e,he,e1,e2⟩
 ·omega
 ·obtain⟨m1,m2,m3,m4,m5⟩:=(wO hq x).1 hx;have hd:=m4.1.rng e (by omega);have hne:x.ah.getD e 0≠-1:=λh=>m4.2 (jX.2 ⟨e,by omega,h⟩);obtain⟨f,hf⟩:∃f:Nat,x.ah.getD e 0=f:=⟨(x.ah.getD e 0).toNat,by omega⟩
  have jS:f<g.ah.length:=by omega
  obtain⟨k1,k2,k3⟩:=m5 e he;rw[hf,Zr]at k1 k2 k3;obtain⟨a1,a2⟩:=hq.ar _ (pF he) _ (pF jS) k1;have hs:=(aed a1 a2).2 ⟨k1,k2,k3⟩;unfold wL at hs;simp only[Zu,ZF]at hs;have bV:x.aB.getD w 0∈pj (g.ah.getD f bQ):=by
   rcases hpj with rfl|rfl
   ·rw[<-hs.2.2.1];have:=SQ (tz:=x.aB) e2;rwa [Zr]at this
   ·rw[<-hs.2.2.2];have:=SQ (tz:=x.aB) e2;rwa [Zr]at this
  rw[e1,Zr,hf,h2.hit f jS _ bV]
structure Cm (g q:aF) (W V:Nat) (ws es:List Int):Prop where
 wl:ws.length=V
 el:es.length=q.ah.length
 pw:vk W ws
 pe:vk g.ah.length es
 im:∀i,i<q.ah.length->es.getD i 0≠-1->(q.ah.getD i bQ).kind=(g.ah.getD (es.getD i 0).toNat bQ).kind/\(q.ah.getD i bQ).value=(g.ah.getD (es.getD i 0).toNat bQ).value/\∀p∈tJ (q.ah.getD i bQ) (g.ah.getD (es.getD i 0).toNat bQ),ws.getD p.1 0=p.2
def Goes (g q:aF) (ws es:List Int) (x:aX):Prop:=Ce g q x=true/\iq ws x.aB/\iq es x.ah
structure sK (g q:aF) (W V:Nat) (g_ es0:List Int) (e0 f0:Nat) (ws es:List Int) (todo:List (Int×Int)):Prop where
 pt:Cm g q W V ws es
 ex:iq g_ ws/\iq es0 es
 rg:∀p∈todo,(p.1=-1\/0<=p.1/\p.1<q.ah.length)/\(p.2=-1\/0<=p.2/\p.2<g.ah.length)
 sn:es.getD e0 0=f0\/((e0:Int),(f0:Int))∈todo
 al:∀x,Goes g q g_ es0 x->x.ah.getD e0 0=f0->iq ws x.aB/\iq es x.ah/\∀p∈todo,0<=p.1->x.ah.getD p.1.toNat 0=p.2
theorem sK.start {g q:aF} {W V:Nat} {ws es:List Int} {e f:Nat} (h:Cm g q W V ws es) (he:e<q.ah.length) (hf:f<g.ah.length):sK g q W V ws es e f ws es [((e:Int),(f:Int))] :=
 ⟨h,⟨iq.refl _,iq.refl _⟩,λp hp=>by simp at hp;subst hp;simp only;omega,.inr (by simp),λx hx vF=>⟨hx.2.1,hx.2.2,λp hp _=>by simp at hp;subst hp;simpa using vF⟩⟩
theorem sK.skip {g q:aF} {W V:Nat} {g_ es0 ws es:List Int} {e0 f0:Nat} {e f:Int} {todo:List (Int×Int)} (h:sK g q W V g_ es0 e0 f0 ws es ((e,f)::todo)) (he:e<0):sK g q W V g_ es0 e0 f0 ws es todo :=
 ⟨h.pt,h.ex,λp hp=>h.rg p (by simp[hp]),h.sn.imp id (λhm=>by rcases ZU.1 hm with e1|h1;(rw[YG]at e1;omega);exact h1),λx hx vF=>by obtain⟨a,b,c⟩:=h.al x hx vF;exact⟨a,b,λp hp=>c p (by simp[hp])⟩⟩
theorem sK.same {g q:aF} {W V:Nat} {g_ es0 ws es:List Int} {e0 f0:Nat} {e f:Int} {todo:List (Int×Int)} (h:sK g q W V g_ es0 e0 f0 ws es ((e,f)::todo)) (he:es.getD e.toNat 0=f):sK g q W V g_ es0 e0 f0 ws es todo :=
 ⟨h.pt,h.ex,λp hp=>h.rg p (by simp[hp]),by
  rcases h.sn with h1|h1
  ·exact .inl h1
  ·rcases ZU.1 h1 with e1|h1
   ·rw[YG]at e1;obtain⟨rfl,rfl⟩:=e1;exact .inl (by simpa using he)
   ·exact .inr h1,λx hx vF=>by obtain⟨a,b,c⟩:=h.al x hx vF;exact⟨a,b,λp hp=>c p (by simp[hp])⟩⟩
def y8 (g q:aF) (g_ es0:List Int) (e0 f0:Nat):Prop:=∀x,Goes g q g_ es0 x->x.ah.getD e0 0≠f0
theorem sK.bad {g q:aF} {W V:Nat} (hq:lM g q W V) {g_ es0 ws es:List Int} {e0 f0:Nat} {e f:Int} {todo:List (Int×Int)} (h:sK g q W V g_ es0 e0 f0 ws es ((e,f)::todo)) (he:0<=e)
  (hb:f<0\/(es.getD e.toNat 0≠-1/\es.getD e.toNat 0≠f)\/(es.getD e.toNat 0=-1/\f∈es)):y8 g q g_ es0 e0 f0:=by
 intro x hx vF;obtain⟨a,b,c⟩:=h.al x hx vF;have hc:=c (e,f) (by simp) he;simp only at hc;have hr:=(h.rg (e,f) (by simp)).1;simp only at hr;obtain⟨m1,m2,m3,m4,m5⟩:=(wO hq x).1 hx.1;have hi:e.toNat<x.ah.length:=by omega
 have hl:=h.pt.el;rcases hb with hb|⟨hb1,hb2⟩|⟨hb1,hb2⟩
 ·rcases m4.1.rng e.toNat hi with h1|h1
  ·exact m4.2 (jX.2 ⟨_,hi,h1⟩)
  ·omega
 ·have:=b e.toNat (by omega) hb1;omega
 ·obtain⟨k,hk,ek⟩:=jX.1 hb2;have hne:x.ah.getD e.toNat 0≠-1:=λh1=>m4.2 (jX.2 ⟨_,hi,h1⟩);have h1:=b k hk (by rw[ek,<-hc];exact hne);have:=m4.1.inj e.toNat k hi (by omega) hne (by rw[hc,h1,ek]);rw[<-this]at ek;rw[hb1,<-hc]at ek;exact hne ek.symm
theorem sK.ahF {g q:aF} {W V:Nat} (hq:lM g q W V) {g_ es0 ws es:List Int} {e0 f0:Nat} {e f:Int} {todo:List (Int×Int)} (h:sK g q W V g_ es0 e0 f0 ws es ((e,f)::todo)) (he:0<=e)
  (hb:(q.ah.getD e.toNat bQ).kind≠(g.ah.getD f.toNat bQ).kind\/(q.ah.getD e.toNat bQ).value≠(g.ah.getD f.toNat bQ).value):y8 g q g_ es0 e0 f0:=by
 intro x hx vF;obtain⟨a,b,c⟩:=h.al x hx vF;have hc:=c (e,f) (by simp) he;simp only at hc;have hr:=(h.rg (e,f) (by simp)).1;simp only at hr;obtain⟨m1,m2,m3,m4,m5⟩:=(wO hq x).1 hx.1;obtain⟨k1,k2,_⟩:=m5 e.toNat (by omega)
 rw[hc]at k1 k2;rcases hb with hb|hb
 ·exact hb k1
 ·exact hb k2
theorem sK.aol {g q:aF} {W V:Nat} (hq:lM g q W V) {g_ es0 ws es:List Int} {e0 f0:Nat} {e f:Int} {todo:List (Int×Int)} (h:sK g q W V g_ es0 e0 f0 ws es ((e,f)::todo)) (he:0<=e)
  (hb:mY ws (tJ (q.ah.getD e.toNat bQ) (g.ah.getD f.toNat bQ))=none):y8 g q g_ es0 e0 f0:=by
 intro x hx vF;obtain⟨a,b,c⟩:=h.al x hx vF;have hc:=c (e,f) (by simp) he;simp only at hc;have hr:=(h.rg (e,f) (by simp)).1;simp only at hr;obtain⟨m1,m2,m3,m4,m5⟩:=(wO hq x).1 hx.1;have hi:e.toNat<x.ah.length:=by omega
 have hd:=m4.1.rng e.toNat hi;have hne:x.ah.getD e.toNat 0≠-1:=λh1=>m4.2 (jX.2 ⟨_,hi,h1⟩);obtain⟨k1,k2,k3⟩:=m5 e.toNat (by omega)
 rw[hc]at k3;have hrg:=JZ hq (pF (E:=q.ah) (i:=e.toNat) (by omega)) (pF (E:=g.ah) (i:=f.toNat) (by omega));obtain⟨ws',hs,_⟩:=ab7 (x:=x.aB) (λa b ha hb he=>m3.1.inj a b ha hb (λe=>m3.2 (jX.2 ⟨a,ha,e⟩)) he) (ws:=ws) (by rw[h.pt.wl,m1])
  (λp hp=>by have:=hrg p hp;rw[h.pt.wl];omega) a k3
 rw[hs]at hb;cases hb
def CG (fq tq fg tg:List Int) (ps:List (Nat×Int)):List (Int×Int):=ps.flatMap λp=>[(fq.getD p.1 0,fg.getD p.2.toNat 0),(tq.getD p.1 0,tg.getD p.2.toNat 0)]
theorem ahG (fq tq fg tg:List Int) (ps:List (Nat×Int)) (p:Nat×Int):CG fq tq fg tg (ps++[p])=CG fq tq fg tg ps++[(fq.getD p.1 0,fg.getD p.2.toNat 0),(tq.getD p.1 0,tg.getD p.2.toNat 0)]:=by simp[CG]
theorem ahH (fq tq fg tg:List Int) (ps:List (Nat×Int)):(CG fq tq fg tg ps).length=2*ps.length:=by
 induction ps with
 | nil=>rfl
 | cons p r ih=>simp only[CG,Yt,Zk,Yv,Y6]at ih ⊢;omega
theorem Iz.rg {pj:aO->List Int} {E:List aO} {W:Nat} {fl:List Int} (h:Iz pj E W fl) {w:Nat} (hw:w<W):fl.getD w 0=-1\/0<=fl.getD w 0/\fl.getD w 0<E.length:=by
 rcases h.no w hw with e|⟨e,he,e1,_⟩
 ·exact .inl e
 ·exact .inr (by omega)
theorem sK.next {g q:aF} {W V:Nat} (hq:lM g q W V) {fq tq fg tg:List Int} (hfq:Iz aO.ay q.ah V fq) (htq:Iz aO.aj q.ah V tq) (SS:Iz aO.ay g.ah W fg) (htg:Iz aO.aj g.ah W tg)
  {g_ es0 ws ws' es:List Int} {e0 f0:Nat} {e f:Int} {todo:List (Int×Int)} (h:sK g q W V g_ es0 e0 f0 ws es ((e,f)::todo)) (hl0:g_.length=V) (iH:es0.length=q.ah.length) (he:0<=e) (hf:0<=f)
  (hn:es.getD e.toNat 0=-1) (hm:¬f∈es) (hk:(q.ah.getD e.toNat bQ).kind=(g.ah.getD f.toNat bQ).kind) (hv:(q.ah.getD e.toNat bQ).value=(g.ah.getD f.toNat bQ).value)
  (hs:mY ws (tJ (q.ah.getD e.toNat bQ) (g.ah.getD f.toNat bQ))=some ws') :
  sK g q W V g_ es0 e0 f0 ws' (es.set e.toNat f) (todo++CG fq tq fg tg (tJ (q.ah.getD e.toNat bQ) (g.ah.getD f.toNat bQ))):=by
 obtain⟨r1,r2⟩:=h.rg (e,f) (by simp);simp only at r1 r2;have Cb:=h.pt.el;have qZ:=h.pt.wl;have hi:e.toNat<es.length:=by omega
 have hrg:=JZ hq (pF (E:=q.ah) (i:=e.toNat) (by omega)) (pF (E:=g.ah) (i:=f.toNat) (by omega));obtain⟨a1,a2,a3,a4⟩:=ab6 h.pt.pw (λp hp=>by rw[qZ];exact hrg p hp) hs;have cZ:setW es e.toNat f=some (es.set e.toNat f):=by
  unfold setW;rw[ZH (by rw[hn];simp),ZH hm]
 obtain⟨b1,b2,b3,b4⟩:=JV h.pt.pe hi hf (by omega) cZ;have hg:=xR es e.toNat f hi;refine⟨⟨a3.trans qZ,b3.trans Cb,a1,b1,λi jy hne=>?_⟩,⟨iq.trans (by rw[hl0,qZ]) h.ex.1 a2,iq.trans (by rw[iH,Cb]) h.ex.2 b2⟩,λp hp=>?_,?_,λx hx vF=>?_⟩
 ·rw[hg i]at hne ⊢;by_cases ei:i=e.toNat
  ·subst ei;rw[ZE rfl];exact⟨hk,hv,a4⟩
  ·rw[ZH ei]at hne ⊢;obtain⟨k1,k2,k3⟩:=h.pt.im i jy hne;have hd:=h.pt.pe.rng i (by omega);have hr:=JZ hq (pF jy) (pF (E:=g.ah) (i:=(es.getD i 0).toNat) (by omega));refine⟨k1,k2,λp hp=>?_⟩;have:=hr p hp;rw[a2 p.1 (by omega) (by rw[k3 p hp];omega),k3 p hp]
 ·rcases Zs.1 hp with h1|h1
  ·exact h.rg p (by simp[h1])
  ·obtain⟨c,hc,h2⟩:=Z6.1 h1;have:=hrg c hc;simp only[ZU,YM,XM]at h2;rcases h2 with rfl|rfl
   ·exact⟨hfq.rg (by omega),SS.rg (by omega)⟩
   ·exact⟨htq.rg (by omega),htg.rg (by omega)⟩
 ·rcases h.sn with h1|h1
  ·refine .inl ?_;rw[hg e0];by_cases ee:e0=e.toNat
   ·subst ee;rw[h1]at hn;omega
   ·rw[ZH ee];exact h1
  ·rcases ZU.1 h1 with e1|h1
   ·rw[YG]at e1;obtain⟨rfl,rfl⟩:=e1;refine .inl ?_;rw[hg e0,ZE (by simp)]
   ·exact .inr (ZV _ h1)
 ·obtain⟨c1,c2,c3⟩:=h.al x hx vF;have hc:=c3 (e,f) (by simp) he;simp only at hc;obtain⟨m1,m2,m3,m4,m5⟩:=(wO hq x).1 hx.1;obtain⟨k1,k2,k3⟩:=m5 e.toNat (by omega)
  rw[hc]at k3;obtain⟨ws2,hs2,hE,_⟩:=ab7 (x:=x.aB) (λa b ha hb he=>m3.1.inj a b ha hb (λe=>m3.2 (jX.2 ⟨a,ha,e⟩)) he) (ws:=ws) (by rw[qZ,m1])
   (λp hp=>by have:=hrg p hp;rw[qZ];omega) c1 k3
  rw[hs]at hs2;obtain rfl:=Zy hs2;refine⟨hE,λi jy hne=>?_,λp hp h0=>?_⟩
  ·rw[hg i]at hne ⊢;by_cases ei:i=e.toNat
   ·subst ei;rw[ZE rfl];exact hc
   ·rw[ZH ei]at hne ⊢;exact c2 i (by rwa [Yf]at jy) hne
  ·rcases Zs.1 hp with h1|h1
   ·exact c3 p (by simp[h1]) h0
   ·obtain⟨c,hcm,h2⟩:=Z6.1 h1;have Na:=hrg c hcm;have hxv:=k3 c hcm;simp only[ZU,YM,XM]at h2;rcases h2 with rfl|rfl
    ·rw[nbr hq (.inr rfl) hfq SS hx.1 Na.1 h0,hxv]
    ·rw[nbr hq (.inl rfl) htq htg hx.1 Na.1 h0,hxv]
theorem sK.fin {g q:aF} {W V:Nat} {g_ es0 ws es:List Int} {e0 f0:Nat} (h:sK g q W V g_ es0 e0 f0 ws es []) :
  Cm g q W V ws es/\es.getD e0 0=f0/\iq g_ ws/\iq es0 es/\∀x,Goes g q g_ es0 x->x.ah.getD e0 0=f0->Goes g q ws es x :=
 ⟨h.pt,h.sn.resolve_right (by simp),h.ex.1,h.ex.2,λx hx vF=>⟨hx.1,(h.al x hx vF).1,(h.al x hx vF).2.1⟩⟩
theorem O8 {g q:aF} {W V:Nat} (hq:lM g q W V) {ws es:List Int} {x:aX}:x∈pG g q ws es↔Goes g q ws es x:=by
 unfold pG Goes;rw[YJ,M_ hq,Zu,Cj,Cj]
theorem aom {g q:aF} {W V:Nat} (hq:lM g q W V) {ws es ws' es':List Int} {e f:Nat} (hl:ws.length=ws'.length) (hl2:es.length=es'.length) (he:e<es'.length) (h1:es'.getD e 0=f) (h2:iq ws ws') (h3:iq es es') (h4:∀x,Goes g q ws es x->x.ah.getD e 0=f->Goes g q ws' es' x) :
  (pG g q ws es).filter (λx=>decide (x.ah.getD e 0=(f:Int)))=pG g q ws' es':=by
 unfold pG;rw[List.filter_filter];apply XK;intro x hx;have hm:=(M_ hq x).1 hx;rw[YK];simp only[Zu,ZF,Cj];constructor
 ·rintro⟨a,b,c⟩;exact(h4 x ⟨hm,b,c⟩ a).2
 ·rintro⟨a,b⟩;refine⟨?_,iq.trans hl h2 a,iq.trans hl2 h3 b⟩;rw[b e he (by rw[h1];omega),h1]
theorem aon {g q:aF} {W V:Nat} (hq:lM g q W V) {ws es:List Int} {e f:Nat} (h:y8 g q ws es e f):(pG g q ws es).filter (λx=>decide (x.ah.getD e 0=(f:Int)))=[] :=
 YP.2 λx hx=>by have:=h x ((O8 hq).1 hx);simpa using this
theorem aoo {g q:aF} {W V:Nat} (hq:lM g q W V) {ws es:List Int} {e:Nat} (he:e<q.ah.length) (h:∀f,f<g.ah.length->y8 g q ws es e f):pG g q ws es=[]:=by
 rw[Xz];intro x hx;have hg:=(O8 hq).1 hx;obtain⟨m1,m2,m3,m4,m5⟩:=(wO hq x).1 hg.1;rcases m4.1.rng e (by omega)with h1|h1
 ·exact m4.2 (jX.2 ⟨e,by omega,h1⟩)
 ·exact h (x.ah.getD e 0).toNat (by omega) x hg (by omega)
theorem aop {g q:aF} {W V:Nat} (hq:lM g q W V) {ws es:List Int} {w v:Nat} (hw:w<ws.length) (hn:ws.getD w 0=-1):(pG g q ws es).filter (λx=>decide (x.aB.getD w 0=(v:Int)))=pG g q (ws.set w (v:Int)) es:=by
 unfold pG;rw[List.filter_filter];apply XK;intro x hx;rw[YK];simp only[Zu,ZF,Cj];have hg:=xR ws w (v:Int) hw;constructor
 ·rintro⟨a,b,c⟩;refine⟨λk hk hne=>?_,c⟩;rw[hg k]at hne ⊢;by_cases e:k=w
  ·subst e;rw[ZE rfl];exact a
  ·rw[ZH e]at hne ⊢;exact b k (by rwa [Yf]at hk) hne
 ·rintro⟨a,c⟩;refine⟨?_,λk hk hne=>?_,c⟩
  ·rw[a w (by rw[Yf];exact hw) (by rw[hg w,ZE rfl];omega),hg w,ZE rfl]
  ·have e:k≠w:=λe=>by subst e;exact hne hn
   have:=a k (by rw[Yf];exact hk) (by rw[hg k,ZH e];exact hne);rw[this,hg k,ZH e]
theorem aoq {g q:aF} {W V:Nat} (hq:lM g q W V) {ws es:List Int} (hl:ws.length=V) {w v:Nat} (hw:w<ws.length) (hn:ws.getD w 0=-1) (hm:((v:Nat):Int)∈ws):(pG g q ws es).filter (λx=>decide (x.aB.getD w 0=(v:Int)))=[] :=
 YP.2 λx hx=>by
  have hg:=(O8 hq).1 hx;obtain⟨m1,m2,m3,m4,m5⟩:=(wO hq x).1 hg.1;obtain⟨k,hk,ek⟩:=jX.1 hm;have h1:=hg.2.1 k hk (by rw[ek];omega);simp only[ZF];intro h2;have:=m3.1.inj w k (by omega) (by omega) (by rw[h2];omega) (by rw[h2,h1,ek]);subst this;rw[hn]at ek;omega
theorem aor {g q:aF} {W V:Nat} (hq:lM g q W V) {ws es:List Int} (h:Cm g q W V ws es) (hw:∀k,k<ws.length->ws.getD k 0≠-1) (he:∀k,k<es.length->es.getD k 0≠-1):pG g q ws es=[⟨ws,es⟩]:=by
 have Cb:=h.el;have hm:Ce g q ⟨ws,es⟩=true:=(wO hq _).2 ⟨h.wl,h.el,⟨h.pw,λhm=>by obtain⟨k,hk,e⟩:=jX.1 hm;exact hw k hk e⟩,⟨h.pe,λhm=>by obtain⟨k,hk,e⟩:=jX.1 hm;exact he k hk e⟩,λi hi=>h.im i hi (he i (by omega))⟩;refine filter_one (R:=JX) (λh=>h.ne) (aee hq) ((M_ hq _).2 hm) (λx hx=>?_);obtain⟨m1,m2,m3,m4,m5⟩:=(wO hq x).1 ((M_ hq x).1 hx);rw[Zu,Cj,Cj];constructor
 ·rintro⟨a,b⟩;have ext:∀(l m:List Int),l.length=m.length->(∀k,k<m.length->m.getD k 0≠-1)->iq m l->l=m:=λl m hl hne hE=>by
   apply YT hl;intro k hk eH;have:=hE k eH (hne k eH);rwa [Zg,Zi hk,Zg,Zi eH]at this
  have e1:=ext x.aB ws (by rw[m1,h.wl]) hw a;have e2:=ext x.ah es (by rw[m2,h.el]) he b;cases x;simp only at e1 e2;rw[e1,e2]
 ·rintro rfl;exact⟨iq.refl _,iq.refl _⟩
open Go.RowKit
theorem aos (b o j:Nat):(⟨b,o,none⟩:Addr).add j=⟨b,o+j,none⟩:=by
 cases j<;>simp[Addr.add]
theorem cO {w:World} {B e sz b:Nat} {v:Value} {n:Nat} {xs:List Value} {cs:Array Value} {t:TypeId} (h:w.ownsRow B e sz v n xs) (hb:Bk w b t cs) (he:e≠t):v.ownBlock≠some b:=by
 intro hk;rcases h.2 with⟨rfl,_⟩|⟨g,cap,cur,rfl,_,jF,_⟩
 ·simp[Value.ownBlock]at hk
 ·simp[Value.ownBlock]at hk;subst hk;unfold Bk at hb;rw[jF]at hb;simp at hb;exact he hb.2
theorem Bk.grown {w w':World} {row:Option Nat} {b:Nat} {t:TypeId} {cs:Array Value} (hg:w.grownBy w' row) (h:Bk w b t cs) (hr:row≠some b):Bk w' b t cs:=(hg.block b h.lt (λe=>hr e.symm)).trans h
theorem aeg (f:aO->List Int):∀(L:List aO),(∀e∈L,(f e).length<=2)->(L.flatMap f).length<=2*L.length
 | [],_=>by simp
 | e::L,h=>by
  have h1:=h e (by simp);have h2:=aeg f L (λx hx=>h x (by simp[hx]));rw[Yt,Zk,Yv];omega
theorem aot {g:aF} (h:aY g=true):g.ah.length<=60/\g.iM.length<=132/\g.iZ.length<=132:=by
 unfold aY Ej at h;simp only[Zu,ZF,Z7]at h;obtain⟨⟨_,h2,h3,h4⟩,h5,_⟩:=h;have a:=aeg aO.ay g.ah (λe he=>(aam (h5 e he)).2);have b:=aeg aO.aj g.ah (λe he=>(aam (h5 e he)).1);unfold aF.iM aF.iZ;rw[Zk,Zk];omega
theorem ahI (z:List Int) (f:aO->List Int) (L:List aO):(z::L.map f).flatten=z++L.flatMap f:=by
 rw[List.flatten_cons,List.flatMap_def]
theorem aou:(Tryz.prog.info? 23).map (λi=>(i.zero,i.size,i.bytes))=some (some (.slice none 0 0),1,24):=by kernel_rfl
def aeh (x:List Int×Value):List Value:=[x.2]
theorem aov (x:List Int×Value):(aeh x).length=1:=rfl
structure xX (w0 w:World) (v:Value) (xs:List (List Int×Value)):Prop where
 row:w.ownsRow w0.heap.size 23 1 v xs.length (xs.flatMap aeh)
 els:∀x∈xs,aU w0 x.2 x.1
theorem xX.at {w0 w:World} {v:Value} {xs:List (List Int×Value)} (h:xX w0 w v xs) (hb:Below w0.heap.size w0 w):JR w v (xs.map Prod.fst):=by
 have ho:w.ownsRow w0.heap.size 23 1 v (xs.map Prod.fst).length (xs.flatMap aeh):=by rw[ZG];exact h.row
 refine Me ho _ λi b o jy hc=>⟨jy,?_⟩
 have hi:i<xs.length:=by simpa using jy
 have g:=(hc 0 (by omega)).trans (flat_get aov xs i 0 hi (by omega));rw[YN];exact⟨xs[i].2,g,(h.els _ (Zp hi)).keep hb⟩
theorem xX.keep {w0 w w':World} {v:Value} {xs:List (List Int×Value)} (hb:Below w.heap.size w w') (h:xX w0 w v xs):xX w0 w' v xs:=⟨jL hb h.row,h.els⟩
theorem xX.grown {w0 w w':World} {v:Value} {xs:List (List Int×Value)} {row:Option Nat} (h:xX w0 w v xs) (hg:w.grownBy w' row) (hne:∀k,v.ownBlock=some k->row≠some k):xX w0 w' v xs:=by
 refine⟨World.ownsRow.kept h.row hg ?_,h.els⟩;cases hv:v.ownBlock with
 | none=>exact .inl rfl
 | some k=>exact .inr (λe=>hne k hv (e▸rfl))
theorem xX.made {w0 w:World} {b:Nat} {u:Value} {zs:List Int} (aW:w.heap[b]?=some (.cells #[u] 23)) (hB:w0.heap.size<=b) (hu:aU w0 u zs):xX w0 w (.slice (some ⟨b,0,none⟩) 1 1) [(zs,u)] :=
 ⟨⟨rfl,.inr ⟨b,1,#[u],rfl,hB,aW,Zj _,by unfold maxLen;omega,rfl,rfl⟩⟩,λx hx=>by simp only[ZS]at hx;subst hx;exact hu⟩
theorem ahJ {w0 w:World} {ops:Array Oper} {rest:List Oper} {o:Oper} {a:Act} {Q:Exit->Act->World->Prop} (hgd:o.guard=none) (s x:Operand)
  (ho:o.op=.call { callee:=.builtin .append,args:=#[s,x],argTypes:=#[142,142] })
  (v:Value) (xs:List (List Int×Value)) (hs:a.eval s=v) (hrow:xX w0 w v xs) (u:Value) (zs:List Int) (hu:aU w0 u zs) (b:Nat) (hx:a.eval x=.slice (some ⟨b,0,none⟩) 1 1) (hb:w.heap[b]?=some (.cells #[u] 23)) (hw0:w0.heap.size<=w.heap.size) (hl:xs.length<=1000)
  (H:∀v' w',xX w0 w' v' (xs++[(zs,u)])->w.grownBy w' v.ownBlock->(v'.ownBlock=v.ownBlock\/v'.ownBlock=some w.heap.size)->wpList Tryz.prog ops Q rest (a.put o.dst v') w'):wpList Tryz.prog ops Q (o::rest) a w:=by
 obtain⟨i0,hi,hz0,hz1,hz2⟩:=Yg aou;obtain⟨au,cu,rfl⟩:=hu.slice;refine JQ hgd s x 142 ho w0.heap.size 23 i0 _ 1 24 Tryz.underlying142 hi hz0 hz1 hz2 rfl (by decide) v xs.length _ hs hrow.row _ 1 [.slice au zs.length cu] hx ⟨rfl,.inr ⟨_,1,rfl,?_⟩⟩ ?_ (by unfold maxLen;omega) (by omega) hw0 ?_
 ·intro j u hj;obtain⟨m0,_,_⟩:=made_cell hb;rw[aos,Yp,m0 j];simpa using hj
 ·intro u xY;simp only[ZS]at xY;subst xY;rfl
 ·intro v' w' h1 h2 h3;refine H v' w' ⟨?_,?_⟩ h2 h3
  ·rw[Zk,ZL];exact h1
  ·intro y hy;rcases Zs.1 hy with hy|hy
   ·exact hrow.els y hy
   ·simp only[ZS]at hy;subst hy;exact hu
theorem aow (ve vi vo:Value) (g:aF) (w:World) (hR:dM w ve vi vo g) (aP:nJ g) :
  Calls Tryz.prog 60 #[.agg #[.int .i64 g.aB,ve,vi,vo]] w (nH (aY g&&monoB g) w):=by
 obtain⟨⟨ae,ce,rfl⟩,⟨ai,ci,rfl⟩,ao,co,rfl⟩:=hR.slices;have hA:=aH w (.cells #[.int .i64 g.aB,.slice ae g.ah.length ce,.slice ai g.aj.length ci,.slice ao g.ay.length co] 33);have hG:=aan _ _ _ g _ (hR.keep hA) aP;cases hg:aY g with
 | false =>
  rw[hg]at hG;have HG:=Za hG;clear hG hg;go_enter Tryz.func60,Tryz.ntmps60;go_wp2_with fail
  refine HG.out.mono ?_;rintro r w1⟨rfl,hb1⟩;go_wp2;go_ret;exact⟨rfl,hA.trans (hb1.mono hA.size)⟩
 | true =>
  rw[hg]at hG;have HG:=Za hG;have IE:=Za hg;clear hG hg;go_enter Tryz.func60,Tryz.ntmps60;have kG:=Bk.new w 33 #[.int .i64 g.aB,.slice ae g.ah.length ce,.slice ai g.aj.length ci,.slice ao g.ay.length co];go_wp2_with fail
  generalize(w.alloc (.cells #[.int .i64 g.aB,.slice ae g.ah.length ce,.slice ai g.aj.length ci,.slice ao g.ay.length co] 33))=u0 at *;refine HG.out.mono ?_;rintro r w1⟨rfl,hb1⟩;replace kG:=kG.keep hb1;have aS:=hA.trans (hb1.mono hA.size);clear hA hb1 HG;obtain⟨iG,-,zG⟩:=kG.cell;have c0:w1.cell? ⟨w.heap.size,2,none⟩=some (.slice ai g.aj.length ci):=iG 2;have c1:w1.cell? ⟨w.heap.size,3,none⟩=some (.slice ao g.ay.length co):=iG 3;have hwz:=aS.size;go_wp2_with fail
  refine h_ (C:=aC (dD) _) 4 [0,1,2,3,4,5,6,7] (by kernel_rfl) (by kernel_rfl) (aC.aJ _ _) (aC.refl _ _) ?_;iterate 2 (apply dh rfl rfl rfl;(focus intro u hc' hf';go_simp<;>rfl);intro K hK;go_simp;apply hK;clear hK K)
  refine ku rfl rfl rfl (aC.aJ _ _) (aC.refl _ _) (λb=>.slice (some ⟨b,0,none⟩) 1 1) (λK hK=>?_);apply Zq;refine⟨λw' hw'=>?_,λbA x1 hx1 hb1 O9 F5 jH=>?_⟩
  ·obtain⟨hc',hf'⟩:=hw'.cell
   try simp only[Zo]at hc' hf'
   go_simp;rfl
  go_simp;refine hK _ _ _ ?_;clear hK K;iterate 2 (apply dh rfl rfl rfl;(focus intro u hc' hf';go_simp<;>rfl);intro K hK;go_simp;apply hK;clear hK K)
  refine ku rfl rfl rfl (aC.aJ _ _) (hx1) (λb=>.slice (some ⟨b,0,none⟩) 1 1) (λK hK=>?_);apply Zq;refine⟨λw' hw'=>?_,λbB x2 hx2 hb2 J5 J6 jI=>?_⟩
  ·obtain⟨hc',hf'⟩:=hw'.cell
   try simp only[Zo]at hc' hf'
   go_simp;rfl
  go_simp;refine hK _ _ _ ?_;clear hK K;iterate 2 (apply dh rfl rfl rfl;(focus intro u hc' hf';go_simp<;>rfl);intro K hK;go_simp;apply hK;clear hK K)
  refine dR ?_;have zh:Below w1.heap.size w1 x2:=(Zl _ _).drew.trans (hx2.toBelow.mono (by simp));replace kG:=kG.keep zh;have hwx:=hb2.size;simp only[Zo]at F5 J6;have r3:xX w x2 (.slice (some ⟨bA,0,none⟩) 1 1) [(g.aj,.slice ai g.aj.length ci)]:=xX.made ((hb2.block bA (made_cell O9).2.2).trans O9) (by omega) hR.inn;have r4:xX w x2 (.slice (some ⟨bB,0,none⟩) 1 1) [(g.ay,.slice ao g.ay.length co)]:=xX.made J5 (by omega) hR.out;have hap:Apart (.slice (some ⟨bA,0,none⟩) 1 1) (.slice (some ⟨bB,0,none⟩) 1 1):=λk h1 h2=>by simp[Value.ownBlock]at h1 h2;omega
  have aZ:=aS.trans (zh.mono hwz);clear iG zG c0 c1 O9 J5 F5 J6 jH jI hx1 hx2 hb1 hb2 zh aS hwz;obtain⟨iG,-,zG⟩:=kG.cell;go_wp2_with fail
  clear iG zG;obtain⟨pe,JO,he,hce,hat⟩:=hR.ed;simp only[Zx]at he;obtain⟨rfl,-,rfl⟩:=he;obtain⟨Cb,hol,FP⟩:=aot IE.out;have HL:=Za (Zb hol FP);clear hol FP;go_loopw [3,4,19] (λv3 v4 i wr=>∃(k:Nat) (xs ys:List (List Int×Value)),k<=g.ah.length/\i=.int .i64 k/\xX w wr v3 xs/\xX w wr v4 ys/\Apart v3 v4/\Below w.heap.size w wr/\Bk wr w.heap.size 33 #[.int .i64 g.aB,.slice ae g.ah.length ce,.slice ai g.aj.length ci,.slice ao g.ay.length co] /\
   Hid (xs.map Prod.fst=g.aj::(g.ah.take k).map aO.ay/\ys.map Prod.fst=g.ay::(g.ah.take k).map aO.aj/\xs.length=k+1/\ys.length=k+1)) (λ_ _ i _=>g.ah.length-(intOf i).toNat)
  case atStart=>exact⟨0,_,_,Zw _,rfl,r3,r4,hap,aZ,kG,⟨by simp,by simp,rfl,rfl⟩⟩
  case round =>
   clear r3 r4 hap aZ kG;obtain⟨k,xs,ys,hk,rfl,r3,r4,hap,dF,kG,HF⟩:=hrel;by_cases hlt:k<g.ah.length
   ·obtain⟨b,o,rfl,_,dI⟩:=hat k hlt;obtain⟨c0,c1,y1,y2,c2,c3,hi,ho⟩:=dI.keep dF;obtain⟨d0,d1,z1,z2,d2,d3,nR,AB⟩:=dI;obtain rfl:y1=z1:=by have:=aK dF d2;rw[c2]at this;exact Zy this
    obtain rfl:y2=z2:=by have:=aK dF d3;rw[c3]at this;exact Zy this
    obtain⟨a1,q1,rfl⟩:=nR.slice;obtain⟨a2,q2,rfl⟩:=AB.slice;have bz:=cell_lt c0;have hwr:=dF.size;have lC:xs.length<=1000:=by have:=HF.out.2.2.1;omega
    have uD:ys.length<=1000:=by have:=HF.out.2.2.2;omega
    have tH:(g.ah.take (k+1)).map aO.ay=(g.ah.take k).map aO.ay++[g.ah[k].ay]:=by rw[Zv hlt,ZK];rfl
    have hT2:(g.ah.take (k+1)).map aO.aj=(g.ah.take k).map aO.aj++[g.ah[k].aj]:=by rw[Zv hlt,ZK];rfl
    have HT:=Za (Zb tH hT2);obtain⟨s3,t3,rfl⟩:=(r3.at dF).slice;obtain⟨s4,t4,rfl⟩:=(r4.at dF).slice;rw[ZG]at r3 r4 hap ⊢;rw[ZG]at hap ⊢;have kE:=Bk.new wr 102 #[.int .i64 g.ah[k].kind,.int .i64 g.ah[k].value,.slice a1 g.ah[k].aj.length q1,.slice a2 g.ah[k].ay.length q2];have aQ:=aH wr (.cells #[.int .i64 g.ah[k].kind,.int .i64 g.ah[k].value,.slice a1 g.ah[k].aj.length q1,.slice a2 g.ah[k].ay.length q2] 102);clear hat tH hT2 d0 d1 d2 d3 hi ho;have SX:((wr.alloc (.cells #[.int .i64 g.ah[k].kind,.int .i64 g.ah[k].value,.slice a1 g.ah[k].aj.length q1,.slice a2 g.ah[k].ay.length q2] 102)).alloc (.cells #[.slice a2 g.ah[k].ay.length q2] 23)).heap[wr.heap.size+1]?=some (.cells #[.slice a2 g.ah[k].ay.length q2] 23):=by
     have:=Bk.new (wr.alloc (.cells #[.int .i64 g.ah[k].kind,.int .i64 g.ah[k].value,.slice a1 g.ah[k].aj.length q1,.slice a2 g.ah[k].ay.length q2] 102)) 23 #[.slice a2 g.ah[k].ay.length q2];unfold Bk at this;simpa using this
    have aT:=aH (wr.alloc (.cells #[.int .i64 g.ah[k].kind,.int .i64 g.ah[k].value,.slice a1 g.ah[k].aj.length q1,.slice a2 g.ah[k].ay.length q2] 102)) (.cells #[.slice a2 g.ah[k].ay.length q2] 23);have J7:=kE.keep aT;have qg:=(kG.keep aQ).keep aT;have r32:=(r3.keep aQ).keep aT;have r42:=(r4.keep aQ).keep aT;have hb2:=(dF.trans (aQ.mono hwr)).trans (aT.mono (by simp;omega));generalize hW2:((wr.alloc (.cells #[.int .i64 g.ah[k].kind,.int .i64 g.ah[k].value,.slice a1 g.ah[k].aj.length q1,.slice a2 g.ah[k].ay.length q2] 102)).alloc (.cells #[.slice a2 g.ah[k].ay.length q2] 23))=W2 at SX J7 qg r32 r42 hb2;have ahK:=hb2.size;have ahL:∀j,(Value.slice s3 xs.length t3).ownBlock=some j->j≠wr.heap.size/\j≠w.heap.size:=λj hj=>⟨λe=>by have:=(Zh r3.row j hj).2;omega,λe=>cO r3.row kG (by decide) (e▸hj)⟩
    have own4:∀j,(Value.slice s4 ys.length t4).ownBlock=some j->j≠wr.heap.size/\j≠w.heap.size:=λj hj=>⟨λe=>by have:=(Zh r4.row j hj).2;omega,λe=>cO r4.row kG (by decide) (e▸hj)⟩
    have low4:∀j,(Value.slice s4 ys.length t4).ownBlock=some j->w.heap.size<=j/\j<wr.heap.size:=λj hj=>Zh r4.row j hj;have hwW:wr.heap.size<=W2.heap.size:=by rw[<-hW2];simp;omega
    have aox:∀j,(Value.slice s3 xs.length t3).ownBlock=some j->w.heap.size<=j:=λj hj=>(Zh r3.row j hj).1;clear aQ aT kE r3 r4 kG;go_wp2_with (first|(at_builtin;(try rw[hW2]);refine ahJ rfl (.tmp 23) (.tmp 26) rfl _ xs rfl r32 _ g.ah[k].ay AB _ rfl SX ahK lC ?_;intro v5 w5 r5 g5 n5;have kE5:=Bk.grown g5 J7 (λe=>(ahL _ e).1 rfl);have kG5:=Bk.grown g5 qg (λe=>(ahL _ e).2 rfl);have r45:=r42.grown g5 (λj h1 h2=>hap j h2 h1);have bH:=hb2.grown g5 ahK aox;obtain⟨iE,-,zE⟩:=kE5.cell;have aoy:=bH.size)|(at_builtin;refine ahJ rfl (.tmp 28) (.tmp 31) rfl _ ys rfl (r45.keep (aH _ _)) _ g.ah[k].aj nR _ rfl (Bk.new _ _ _) (by simp;omega) uD ?_;intro v6 w6 r6 g6 n6))
    have fP:=aH w5 (.cells #[.slice a1 g.ah[k].aj.length q1] 23);have Na:∀j,v5.ownBlock=some j->(Value.slice s4 ys.length t4).ownBlock≠some j:=λj h1 h2=>by
     rcases n5 with e|e
     ·exact hap j (e▸h1) h2
     ·rw[e]at h1;have:=Zy h1;have:=(low4 j h2).2;omega
    have r56:=(r5.keep fP).grown g6 Na;have kG6:=Bk.grown g6 (kG5.keep fP) (λe=>(own4 _ e).2 rfl);have aV:=(bH.trans (fP.mono aoy)).grown g6 (by simp;omega) (λj hj=>(low4 j hj).1);have aoz:Apart v5 v6:=λj h1 h2=>by
     rcases n6 with e|e
     ·exact Na j h1 (e▸h2)
     ·rw[e]at h2;have h3:=Zy h2;have h4:=(Zh r5.row j h1).2;simp only[Zn]at h3;omega
    have hH:Hid ((xs++[(g.ah[k].ay,Value.slice a2 g.ah[k].ay.length q2)]).map Prod.fst=g.aj::(g.ah.take (k+1)).map aO.ay/\(ys++[(g.ah[k].aj,Value.slice a1 g.ah[k].aj.length q1)]).map Prod.fst=g.ay::(g.ah.take (k+1)).map aO.aj/\(xs++[(g.ah[k].ay,Value.slice a2 g.ah[k].ay.length q2)]).length=k+1+1/\(ys++[(g.ah[k].aj,Value.slice a1 g.ah[k].aj.length q1)]).length=k+1+1) :=
     ⟨by rw[ZK,HF.out.1,HT.out.1];rfl,by rw[ZK,HF.out.2.1,HT.out.2];rfl,by rw[Zk,HF.out.2.2.1];rfl,by rw[Zk,HF.out.2.2.2];rfl⟩
    refine⟨⟨k+1,_,_,by omega,by push_cast;rfl,r56,r6,aoz,aV,kG6,hH⟩,?_⟩;simp[intOf];omega
   ·obtain rfl:k=g.ah.length:=by omega
    rw[ZY]at HF;have l3:=r3.at dF;have l4:=r4.at dF;rw[HF.out.1]at l3;rw[HF.out.2.1]at l4;obtain⟨s3,t3,rfl⟩:=l3.slice;obtain⟨s4,t4,rfl⟩:=l4.slice;have f3:(g.aj::g.ah.map aO.ay).flatten=g.iM:=ahI _ _ _;have f4:(g.ay::g.ah.map aO.aj).flatten=g.iZ:=ahI _ _ _;have h3:=ahv _ _ g.aB wr l3 (by simp;omega) (by rw[f3];have:=HL.out;omega);have h4:=λ(u:World) (hu:Below wr.heap.size wr u)=>ahv _ _ g.aB u (l4.keep hu) (by simp;omega) (by rw[f4];have:=HL.out;omega);rw[f3]at h3;rw[f4]at h4;have g3:(g.aj::g.ah.map aO.ay).length=g.ah.length+1:=by simp
    have g4:(g.ay::g.ah.map aO.aj).length=g.ah.length+1:=by simp
    rw[g3]at h3;simp only[g4]at h4;rw[g3,g4];clear g3 g4;have H4:=Za h4;clear h4 l3 l4 r3 r4 hap hat f3 f4;obtain⟨iG,-,zG⟩:=kG.cell;cases hp:uU g.iM g.aB with
    | false =>
     rw[hp]at h3;have H3:=Za h3;have hm:monoB g=false:=by unfold monoB;rw[hp];rfl
     have HM:=Za hm;clear h3 hp hm;go_wp2_with fail
     refine H3.out.mono ?_;rintro r w3⟨rfl,hb3⟩;go_wp2;go_ret;exact⟨by rw[HM.out];rfl,dF.trans (hb3.mono dF.size)⟩
    | true =>
     rw[hp]at h3;have H3:=Za h3;have hm:monoB g=uU g.iZ g.aB:=by unfold monoB;rw[hp];rfl
     have HM:=Za hm;clear h3 hp hm;go_wp2_with fail
     refine H3.out.mono ?_;rintro r w3⟨rfl,hb3⟩;replace kG:=kG.keep hb3;clear iG zG;obtain⟨iG,-,zG⟩:=kG.cell;go_wp2_with fail
     refine(H4.out w3 hb3).mono ?_;rintro r w4⟨rfl,hb4⟩;go_wp2;go_ret;exact⟨by rw[HM.out];rfl,(dF.trans (hb3.mono dF.size)).trans (hb4.mono (dF.trans (hb3.mono dF.size)).size)⟩
theorem aoA {w:World} {v:Value} {ns:List Nd} (h:dG w v ns) (hn:ns.length<=1048576) {ops:Array Oper} {rest:List Oper} {o:Oper} {a:Act} {Q:Exit->Act->World->Prop} (hgd:o.guard=none) (s x:Operand)
  (ho:o.op=.call { callee:=.builtin .append,args:=#[s,x],argTypes:=#[62,62] })
  (B:Nat) (u:Value) (xs:List Nd) (hs:a.eval s=u) (hx:a.eval x=v) (hown:jA w B u xs) (hB:B<=w.heap.size) (hl:xs.length<=1048576)
  (H:∀v' w',jA w' B v' (xs++ns)->w.grownBy w' u.ownBlock->(v'.ownBlock=u.ownBlock\/v'.ownBlock=some w.heap.size)->wpList Tryz.prog ops Q rest (a.put o.dst v') w'):wpList Tryz.prog ops Q (o::rest) a w:=by
 obtain⟨i0,hi,hz0,hz1,hz2⟩:=Yg aha;refine JQ hgd s x 62 ho B 116 i0 _ 3 32 Tryz.underlying62 hi hz0 hz1 hz2 rfl (by decide) u xs.length _ hs hown v ns.length _ hx (an9 h) (aoa ns) (by unfold maxLen;omega) (by omega) hB ?_;intro v' w' h1 h2 h3;refine H v' w' ?_ h2 h3;unfold jA;rw[Zk,ZL];exact h1
theorem aoB (w:World) (g B:Nat) (hg:g=w.heap.size) (hB:B<=w.heap.size):jA (w.alloc (.cells #[] 116)) B (.slice (some ⟨g,0,none⟩) 0 0) []:=by
 subst hg;have:=X6 (base:=B) (size:=3) (e:=116) w #[] 0 hB (by unfold maxLen;omega) rfl;simpa[jA]using this
theorem ahM (v:Value) (ns:List Nd) (w:World) (hv:dG w v ns) (hn:ns.length<=1048576) :
  Calls Tryz.prog 146 #[v] w λe w'=>∃v',e=.returned (.agg #[v'])/\jA w' w.heap.size v' ns/\Below w.heap.size w w':=by
 obtain⟨a,cap,rfl⟩:=hv.slice;go_enter Tryz.func146,Tryz.ntmps146;go_wp2_with (at_builtin;refine aoA (hv.keep (((Zl _ _).alloc (Zj _) _).alloc (by simp) _)) hn rfl (.tmp 3) (.tmp 4) rfl (w.heap.size+1) (.slice (some ⟨w.heap.size+1,0,none⟩) 0 0) [] rfl rfl (aoB (w.alloc (.cells #[.slice none 0 0] 64)) _ _ (by simp) (by simp)) (by simp) (by simp) ?_;intro v' w' h1 h2 h3;obtain⟨ao,cp,rfl⟩:=h1.slice;have hb1:Below (w.heap.size+1) (w.alloc (.cells #[.slice none 0 0] 64)) w':=((Zl _ _).alloc (by simp) _).grown h2 (by simp) (λk hk=>by simp[Value.ownBlock]at hk;omega);have q0:=hb1.cell (p:=⟨w.heap.size,0,none⟩) (by simp);have q1:=hb1.frozen (p:=⟨w.heap.size,0,none⟩) (by simp);simp[go_sem]at q0 q1)
 refine Zt (v:=.agg #[.slice ao ns.length cp]) (by simp[results,Tryz.results146,go_sem,q0]) rfl ⟨_,rfl,?_,?_⟩
 ·have h1':jA w' (w.heap.size+1) (.slice ao ns.length cp) ns:=by simpa using h1
  exact(h1'.xP (by simp) _).mono (by omega)
 ·exact(((Zl _ _).alloc (Zj _) _).trans (hb1.mono (by omega))).setCell (by simp) _
def mM (k:Int) (a b:W2):W2×Bool :=
 if k=15 then((a.1,b.2),a.2==b.1)else((a.1+b.1,a.2+b.2),decide (a.1+b.1<=12)&&decide (a.2+b.2<=12))
theorem aoC (k:Int) (a b:W2):(if(mM k a b).2 then some (mM k a b).1 else none)=og k a b:=by
 unfold mM og;split
 ·simp
 ·simp
def Sm (a:W2):Prop:=0<=a.1/\a.1<=12/\0<=a.2/\a.2<=12
theorem aoD (k:Int) (a b:W2) (w:World) (ha:Sm a) (hb:Sm b) :
  Calls Tryz.prog 173 #[.int .i64 k,.agg #[.int .i64 a.1,.int .i64 a.2],.agg #[.int .i64 b.1,.int .i64 b.2]] w λe w' =>
   e=.returned (.tuple #[.agg #[.int .i64 (mM k a b).1.1,.int .i64 (mM k a b).1.2],.bool (mM k a b).2])/\Below w.heap.size w w':=by
 obtain⟨a1,a2⟩:=a;obtain⟨b1,b2⟩:=b;obtain⟨p1,p2,p3,p4⟩:=ha;obtain⟨q1,q2,q3,q4⟩:=hb;simp only at p1 p2 p3 p4 q1 q2 q3 q4;by_cases hk:k=15
 ·have g1:(k==15)=true:=by simp[hk]
  have HR:=Za (show mM k (a1,a2) (b1,b2)=((a1,b2),a2==b1)by simp[mM,hk]);clear hk;go_enter Tryz.func173,Tryz.ntmps173;go_wp2_with fail
  go_region
  go_wp2;refine Zt (v:=.tuple #[.agg #[.int .i64 (mM k (a1,a2) (b1,b2)).1.1,.int .i64 (mM k (a1,a2) (b1,b2)).1.2],.bool (mM k (a1,a2) (b1,b2)).2]) (by simp[results,Tryz.results173,go_sem,HR.out]) rfl ⟨rfl,?_⟩;repeat(first|exact Zl _ _|with_reducible refine XQ ?_|refine Xh ?_ (by simp<;>omega) _)
 ·have g1:(k==15)=false:=by simp[hk]
  have HR:=Za (show mM k (a1,a2) (b1,b2)=((a1+b1,a2+b2),decide (a1+b1<=12)&&decide (a2+b2<=12))by simp[mM,hk]);clear hk;go_enter Tryz.func173,Tryz.ntmps173;go_wp2_with fail
  refine adU (C:=Grew ((((w.alloc _).alloc _).alloc _).alloc _).drew) 3 (by kernel_rfl) (by kernel_rfl) (by kernel_rfl) (Grew.refl _) ?_;simp only[Vl,Y5,Vn,Vh];iterate 2
   refine MK (λK hK=>?_);refine abN rfl ?_;apply Zq;refine⟨λw' hw'=>?_,?_⟩
   ·obtain⟨hc',hf',_⟩:=n_ hw';go_simp;rfl
   go_simp;refine hK _ _ ?_;clear hK K
  refine MK (λK hK=>?_);refine g_call rfl rfl 183 ?_;apply Zq;refine⟨λw' hw'=>?_,?_⟩;(focus go_simp;rfl);refine(anc _ _ _).mono ?_;rintro e w3⟨rfl,hb3⟩;refine⟨_,rfl,hb3,?_⟩;go_simp;apply hK;clear hK K;refine adV ?_;obtain⟨hc3,hf3,hs3⟩:=n_ hb3;simp only[Zn,Zo]at hs3 hb3;go_wp2;refine Zt (v:=.tuple #[.agg #[.int .i64 (mM k (a1,a2) (b1,b2)).1.1,.int .i64 (mM k (a1,a2) (b1,b2)).1.2],.bool (mM k (a1,a2) (b1,b2)).2]) (by simp[results,Tryz.results173,go_sem,HR.out,hc3]) rfl ⟨rfl,?_⟩;refine(YI (YI ?_ (by simp;omega) _) (by simp;omega) _);refine Below.trans ?_ (Below.mono hb3 (by omega));repeat(first|exact Zl _ _|with_reducible refine XQ ?_|refine Xh ?_ (by simp<;>omega) _)
theorem acd (n:Nd) (w:World) :
  Calls Tryz.prog 170 #[.agg #[.int .i64 n.kind,.int .i64 n.value,.string n.name]] w λe w'=>e=.returned (.tuple #[.int .i64 (wF n).1,.int .i64 (wF n).2])/\Below w.heap.size w w':=by
 by_cases hk:n.kind=1
 ·have g1:(n.kind==1)=true:=by simp[hk]
  have HR:=Za (show wF n=(n.value,n.value)by simp[wF,hk]);clear hk;go_enter Tryz.func170,Tryz.ntmps170;go_wp2_with fail
  go_region
  go_wp2;go_ret2
  exact⟨by rw[HR.out];rfl,((Zl _ _).alloc (Zj _) _).drew⟩
 ·have g1:(n.kind==1)=false:=by simp[hk]
  have HR:=Za (show wF n=fJ n.kind by simp[wF,hk]);clear hk;go_enter Tryz.func170,Tryz.ntmps170;go_wp2_with (go_at_call 116;refine(adL _ _).mono ?_;rintro e w2⟨rfl,rfl⟩)
  go_ret2
  exact⟨by rw[HR.out];rfl,(Zl _ _).alloc (Zj _) _⟩
theorem Dz (n:Nd) (w:World) :
  Calls Tryz.prog 115 #[.agg #[.int .i64 n.kind,.int .i64 n.value,.string n.name]] w λe w'=>e=.returned (.bool (jB n))/\Below w.heap.size w w':=by
 by_cases he:n.name=ByteArray.empty
 ·have h0:n.name.toList=[]:=(Yq _).2 he;have g0:(!n.name.toList.isEmpty)=false:=by simp[h0]
  by_cases bV:1<=n.kind/\n.kind<=14
  ·have gi:inB n.kind 1 14=true:=by simp[inB];omega
   have a1:decide (1<=n.kind)=true:=by simp;omega
   have a2:decide (n.kind<=14)=true:=by simp;omega
   by_cases h1:n.kind=1
   ·have g1:(n.kind==1)=true:=by simp[h1]
    have HR:=Za (show jB n=inB n.value 0 12 by simp[jB,he,h1,inB]);clear h1 he h0 a1 a2;go_enter Tryz.func115,Tryz.ntmps115;go_wp2_with (go_at_call 46;refine(sD _ _ _ _).mono ?_;rintro e w2⟨rfl,rfl⟩)
    go_ret;exact⟨pY HR.out.symm,(Zl _ _).alloc (Zj _) _⟩
   have g1:(n.kind==1)=false:=by simp[h1]
   by_cases h7:n.kind=7
   ·have g7:(n.kind==7)=true:=by simp[h7]
    have HR:=Za (show jB n=inB n.value 0 96 by simp[jB,he,h7,inB]);clear h1 he h0 a1 a2 h7;go_enter Tryz.func115,Tryz.ntmps115;go_wp2_with (go_at_call 46;refine(sD _ _ _ _).mono ?_;rintro e w2⟨rfl,rfl⟩)
    go_ret;exact⟨pY HR.out.symm,(Zl _ _).alloc (Zj _) _⟩
   have g7:(n.kind==7)=false:=by simp[h7]
   by_cases q_:n.kind=13
   ·have g13:(n.kind==13)=true:=by simp[q_]
    have HR:=Za (show jB n=inB n.value 0 96 by simp[jB,he,q_,inB]);clear h1 he h0 a1 a2 h7 q_;go_enter Tryz.func115,Tryz.ntmps115;go_wp2_with (go_at_call 46;refine(sD _ _ _ _).mono ?_;rintro e w2⟨rfl,rfl⟩)
    go_ret;exact⟨pY HR.out.symm,(Zl _ _).alloc (Zj _) _⟩
   have g13:(n.kind==13)=false:=by simp[q_]
   have HR:=Za (show jB n=(n.value==0)by unfold jB;rw[a1,a2,ZH h1,ZH (by omega)];simp[he];rfl);clear h1 he h0 a1 a2 h7 q_;go_enter Tryz.func115,Tryz.ntmps115;go_wp2_with (go_at_call 46;refine(sD _ _ _ _).mono ?_;rintro e w2⟨rfl,rfl⟩)
   go_ret;exact⟨pY HR.out.symm,(Zl _ _).alloc (Zj _) _⟩
  ·have gi:inB n.kind 1 14=false:=by simp[inB];omega
   have HR:=Za (show jB n=false by
    unfold jB;have a1:(decide (1<=n.kind)&&decide (n.kind<=14))=false:=by simp;omega
    simp only[Vk];rw[<-Vk (decide (1<=n.kind)),a1];simp)
   clear he h0;go_enter Tryz.func115,Tryz.ntmps115;go_wp2_with (go_at_call 46;refine(sD _ _ _ _).mono ?_;rintro e w2⟨rfl,rfl⟩)
   go_ret;exact⟨pY HR.out.symm,(Zl _ _).alloc (Zj _) _⟩
 ·have g0:(!n.name.toList.isEmpty)=true:=by simpa using λh=>he ((Yq _).1 h)
  have HR:=Za (show jB n=false by simp[jB,he]);clear he;go_enter Tryz.func115,Tryz.ntmps115;go_wp2;go_ret;exact⟨pY HR.out.symm,(Zl _ _).alloc (Zj _) _⟩
structure Nc where
 name:ByteArray
 left:List Nd
 right:List Nd
 deriving DecidableEq
def aoE (w:World) (B:Nat) (v:Value) (xs:List (Df×Value)):Prop :=
 w.ownsRow B 225 4 v xs.length (xs.flatMap adI)/\(∀x∈xs,jA w B x.2 x.1.body)/\xs.Pairwise λx y=>Apart x.2 y.2
theorem aC.trans {T:Nat->Prop} {w0 w1 w2:World} (h:aC T w0 w1) (h':aC T w1 w2):aC T w0 w2 :=
 ⟨h'.os.trans h.os,h'.tape.trans h.tape,h'.output.trans h.output,ZI h.size h'.size,λk hk ht=>(h'.block k (Yc hk h.size) ht).trans (h.block k hk ht)⟩
theorem xZ {T:Nat->Prop} {w w':World} {B e sz:Nat} {v:Value} {n:Nat} {xs:List Value} (hE:aC T w w') (h:w.ownsRow B e sz v n xs) (hT:∀k,v.ownBlock=some k->¬T k):w'.ownsRow B e sz v n xs:=by
 refine⟨h.1,?_⟩;rcases h.2 with hn|⟨g,cap,cur,rfl,wu,jF,rest⟩
 ·exact .inl hn
 ·exact .inr ⟨g,cap,cur,rfl,wu,(hE.block g (ZP.1 jF).1 (hT g rfl)).trans jF,rest⟩
def Nh (v:Value):Nat->Prop:=λk=>v.ownBlock=some k
end Go.Proofs.YtkhpobekconobaaGreat
