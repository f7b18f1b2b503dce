import Derived.Test.YtkhpobekconobaaGreatHAF
set_option linter.all false
set_option maxRecDepth 100000
set_option maxHeartbeats 0
namespace Go.Proofs.YtkhpobekconobaaGreat
structure aX where
 aB:List Int
 ah:List Int
 deriving DecidableEq
def bQ:aO:=⟨0,0,[],[]⟩
def JU (l:List Int) (n:Int):Bool:=iL n l&&decide l.Nodup
def wL (ws:List Int) (e f:aO):Bool:=decide (e.kind=f.kind)&&(decide (e.value=f.value)&&(decide (aG ws e.aj=f.aj)&&decide (aG ws e.ay=f.ay)))
def Ce (g q:aF) (m:aX):Bool :=
 decide ((m.aB.length:Int)=q.aB)&&(decide (m.ah.length=q.ah.length)&&(JU m.aB g.aB&&(JU m.ah g.ah.length &&
  (List.range q.ah.length).all λi=>wL m.aB (q.ah.getD i bQ) (g.ah.getD (m.ah.getD i 0).toNat bQ))))
def iq (ws x:List Int):Prop:=∀w,w<ws.length->ws.getD w 0≠-1->x.getD w 0=ws.getD w 0
theorem iq.refl (ws:List Int):iq ws ws:=λ_ _ _=>rfl
theorem iq.trans {a b c:List Int} (hl:a.length=b.length) (h:iq a b) (h':iq b c):iq a c:=λw hw hn=>by
 have h1:=h w hw hn;have h2:=h' w (by omega) (by rw[h1];exact hn);rw[h2,h1]
structure vk (n:Nat) (ws:List Int):Prop where
 rng:∀w,w<ws.length->ws.getD w 0=-1\/(0<=ws.getD w 0/\ws.getD w 0<n)
 inj:∀a b,a<ws.length->b<ws.length->ws.getD a 0≠-1->ws.getD a 0=ws.getD b 0->a=b
def setW (ws:List Int) (w:Nat) (v:Int):Option (List Int) :=
 if ws.getD w 0≠-1 then(if ws.getD w 0=v then some ws else none)else if v∈ws then none else some (ws.set w v)
def mY (ws:List Int):List (Nat×Int)->Option (List Int)
 | []=>some ws
 | p::r=>match setW ws p.1 p.2 with
  | none=>none
  | some ws'=>mY ws' r
theorem xR (ws:List Int) (w:Nat) (v:Int) (hw:w<ws.length) (k:Nat):(ws.set w v).getD k 0=if k=w then v else ws.getD k 0:=by
 by_cases h:k=w
 ·subst h;rw[ZE rfl,Zg,WQ hw];rfl
 ·rw[ZH h,Zg,Xt (λe=>h e.symm),<-Zg]
theorem jX {ws:List Int} {v:Int}:v∈ws↔∃k,k<ws.length/\ws.getD k 0=v:=by
 rw[Yl];constructor
 ·rintro⟨k,hk,e⟩;exact⟨k,hk,by rw[Zg,Zi hk];exact e⟩
 ·rintro⟨k,hk,e⟩;refine⟨k,hk,?_⟩;rw[Zg,Zi hk]at e;exact e
theorem JV {n:Nat} {ws ws':List Int} {w:Nat} {v:Int} (h:vk n ws) (hw:w<ws.length) (h0:0<=v) (h1:v<n) (hs:setW ws w v=some ws') :
  vk n ws'/\iq ws ws'/\ws'.length=ws.length/\ws'.getD w 0=v:=by
 unfold setW at hs;by_cases ha:ws.getD w 0≠-1
 ·rw[ZE ha]at hs;by_cases hb:ws.getD w 0=v
  ·rw[ZE hb,ZQ]at hs;subst hs;exact⟨h,iq.refl _,rfl,hb⟩
  ·rw[ZH hb]at hs;cases hs
 ·rw[ZH ha]at hs;have ha':ws.getD w 0=-1:=by
   rcases WR (ws.getD w 0=-1)with e|e
   ·exact e
   ·exact absurd e ha
  by_cases hb:v∈ws
  ·rw[ZE hb]at hs;cases hs
  ·rw[ZH hb,ZQ]at hs;subst hs;have hg:=xR ws w v hw;refine⟨⟨λk hk=>?_,λa b hA hB hn he=>?_⟩,λk hk hn=>?_,Yf,by rw[hg w,ZE rfl]⟩
   ·rw[hg k];rw[Yf]at hk;by_cases e:k=w
    ·rw[ZE e];exact .inr ⟨h0,h1⟩
    ·rw[ZH e];exact h.rng k hk
   ·rw[Yf]at hA hB;rw[hg a]at hn he;rw[hg b]at he;by_cases ea:a=w
    ·by_cases eb:b=w
     ·rw[ea,eb]
     ·rw[ZE ea,ZH eb]at he;exact absurd (jX.2 ⟨b,hB,he.symm⟩) hb
    ·by_cases eb:b=w
     ·rw[ZH ea,ZE eb]at he;exact absurd (jX.2 ⟨a,hA,he⟩) hb
     ·rw[ZH ea]at hn he;rw[ZH eb]at he;exact h.inj a b hA hB hn he
   ·rw[hg k];by_cases e:k=w
    ·subst e;exact absurd ha' hn
    ·rw[ZH e]
theorem ab6 {n:Nat}:∀{ps:List (Nat×Int)} {ws ws':List Int},vk n ws->(∀p∈ps,p.1<ws.length/\0<=p.2/\p.2<n)->mY ws ps=some ws' ->
  vk n ws'/\iq ws ws'/\ws'.length=ws.length/\∀p∈ps,ws'.getD p.1 0=p.2
 | [],ws,ws',h,_,hs=>by
  simp only[mY,ZQ]at hs;subst hs;exact⟨h,iq.refl _,rfl,by simp⟩
 | p::r,ws,ws',h,hp,hs=>by
  simp only[mY]at hs;cases h1:setW ws p.1 p.2 with
  | none=>rw[h1]at hs;cases hs
  | some Ci =>
   rw[h1]at hs;obtain⟨p1,p2,p3⟩:=hp p (by simp);obtain⟨a1,a2,a3,a4⟩:=JV h p1 p2 p3 h1;obtain⟨b1,b2,b3,b4⟩:=ab6 a1 (λq hq=>by rw[a3];exact hp q (by simp[hq])) hs;refine⟨b1,iq.trans a3.symm a2 b2,b3.trans a3,λq hq=>?_⟩;rcases ZU.1 hq with rfl|hq
   ·rw[b2 q.1 (by rw[a3];exact p1) (by rw[a4];omega),a4]
   ·exact b4 q hq
theorem aoj {ws x:List Int} {w:Nat} {v:Int} (hl:ws.length=x.length) (hw:w<ws.length) (hx:∀a b,a<x.length->b<x.length->x.getD a 0=x.getD b 0->a=b) (h0:v≠-1) (he:iq ws x) (hv:x.getD w 0=v) :
  ∃ws',setW ws w v=some ws'/\iq ws' x/\ws'.length=ws.length:=by
 unfold setW;by_cases ha:ws.getD w 0≠-1
 ·rw[ZE ha,ZE (by rw[<-he w hw ha,hv])];exact⟨_,rfl,he,rfl⟩
 ·have ha':ws.getD w 0=-1:=by
   rcases WR (ws.getD w 0=-1)with e|e
   ·exact e
   ·exact absurd e ha
  have hn:¬v∈ws:=λhm=>by
   obtain⟨k,hk,e⟩:=jX.1 hm;have hx2:=he k hk (by rw[e];exact h0);have:=hx k w (by omega) (by omega) (by rw[hx2,hv,e]);subst this;rw[ha']at e;exact h0 e.symm
  rw[ZH ha,ZH hn];refine⟨_,rfl,λk hk hne=>?_,Yf⟩;rw[xR ws w v hw]at hne ⊢;by_cases e:k=w
  ·subst e;rw[ZE rfl];exact hv
  ·rw[ZH e]at hne ⊢;exact he k (by rwa [Yf]at hk) hne
theorem ab7 {x:List Int} (hx:∀a b,a<x.length->b<x.length->x.getD a 0=x.getD b 0->a=b):∀{ps:List (Nat×Int)} {ws:List Int},ws.length=x.length->(∀p∈ps,p.1<ws.length/\p.2≠-1)->iq ws x->(∀p∈ps,x.getD p.1 0=p.2) ->
  ∃ws',mY ws ps=some ws'/\iq ws' x/\ws'.length=ws.length
 | [],ws,_,_,he,_=>⟨ws,rfl,he,rfl⟩
 | p::r,ws,hl,hp,he,hv=>by
  obtain⟨p1,p2⟩:=hp p (by simp);obtain⟨Ci,e1,h1,l1⟩:=aoj hl p1 hx p2 he (hv p (by simp));obtain⟨ws',e2,h2,l2⟩:=ab7 hx (ps:=r) (ws:=Ci) (l1.trans hl) (λq hq=>by rw[l1];exact hp q (by simp[hq])) h1 (λq hq=>hv q (by simp[hq]));refine⟨ws',?_,h2,l2.trans l1⟩;simp only[mY,e1];exact e2
def tJ (e f:aO):List (Nat×Int):=((e.aj++e.ay).map Int.toNat).zip (f.aj++f.ay)
def vC (W:Nat):Nat->List Int->List Int->List aX
 | 0,ws,ds=>[⟨ws,ds⟩]
 | k+1,ws,ds=>(List.range W).flatMap λv:Nat=>if((v:Nat):Int)∈ws then[]else vC W k (ws.set (ws.idxOf (-1)) (v:Int)) ds
def wM (g q:aF):Nat->List Int->List Int->List aX
 | 0,ws,ds=>vC g.aB.toNat (ws.count (-1)) ws ds
 | r+1,ws,ds=>(List.range g.ah.length).flatMap λf:Nat =>
  if((f:Nat):Int)∈ds\/(q.ah.getD ds.length bQ).kind≠(g.ah.getD f bQ).kind\/(q.ah.getD ds.length bQ).value≠(g.ah.getD f bQ).value then[]
  else match mY ws (tJ (q.ah.getD ds.length bQ) (g.ah.getD f bQ))with
   | none=>[]
   | some ws'=>wM g q r ws' (ds++[(f:Int)])
def xU (g q:aF):List aX:=wM g q q.ah.length (List.replicate q.aB.toNat (-1)) []
def JW (a b:List Int):Prop:=∃k,k<a.length/\(∀j,j<k->a.getD j 0=b.getD j 0)/\a.getD k 0<b.getD k 0
def JX (x y:aX):Prop:=JW x.ah y.ah\/(x.ah=y.ah/\JW x.aB y.aB)
theorem JW.asymm {a b:List Int} (h:JW a b):¬JW b a:=by
 obtain⟨k,_,h1,h2⟩:=h;rintro⟨j,_,h3,h4⟩;rcases X7 k j with h|h|h
 ·have:=h3 k h;omega
 ·subst h;omega
 ·have:=h1 j h;omega
theorem JW.irrefl (a:List Int):¬JW a a:=λh=>h.asymm h
theorem JX.asymm {x y:aX} (h:JX x y):¬JX y x:=by
 rcases h with h|⟨h1,h2⟩
 ·rintro(h'|⟨h1,_⟩)
  ·exact h.asymm h'
  ·rw[h1]at h;exact JW.irrefl _ h
 ·rintro(h'|⟨_,h'⟩)
  ·rw[h1]at h';exact JW.irrefl _ h'
  ·exact h2.asymm h'
theorem JX.ne {x y:aX} (h:JX x y):x≠y:=λe=>by subst e;exact h.asymm h
theorem aaq (W:Nat):∀(k:Nat) (ws ds:List Int),ws.count (-1)=k->vk W ws->∀x,x∈vC W k ws ds↔(x.ah=ds/\x.aB.length=ws.length/\iq ws x.aB/\vk W x.aB/\¬(-1)∈x.aB)
 | 0,ws,ds,hc,hp,x=>by
  have hn:¬(-1:Int)∈ws:=Wr.1 hc;simp only[vC,ZS];constructor
  ·rintro rfl;exact⟨rfl,rfl,iq.refl _,hp,hn⟩
  ·rintro⟨h1,h2,h3,h4,h5⟩;have:x.aB=ws:=by
    apply YT h2;intro k hk eH;have:=h3 k eH (λe=>hn (jX.2 ⟨k,eH,e⟩));rwa [Zg,Zi hk,Zg,Zi eH]at this
   cases x;simp only at this h1;rw[this,h1]
 | k+1,ws,ds,hc,hp,x=>by
  have hm:(-1:Int)∈ws:=X4.1 (by omega);have hi:ws.idxOf (-1)<ws.length:=XI hm;obtain⟨i,jy⟩:∃i,ws.idxOf (-1)=i:=⟨_,rfl⟩
  have hw:ws.getD i 0=-1:=by
   rw[<-jy,Zg,Zi hi];exact Vu hi
  rw[jy]at hi;have cZ:∀v:Nat,v<W->¬((v:Nat):Int)∈ws->setW ws i v=some (ws.set i (v:Int)):=λv _ hv=>by
   unfold setW;rw[ZH (by rw[hw];simp),ZH hv]
  have JY:∀v:Nat,(ws.set i (v:Int)).count (-1)=k:=λv=>by
   have h1:ws=ws.take i++(-1)::ws.drop (i+1):=by
    rw[<-Yr i ws];conv=>lhs;rw[ZN hi]
    have:ws[i]=-1:=by rw[Zg,Zi hi]at hw;exact hw
    rw[this];simp
   have h2:ws.set i (v:Int)=ws.take i++(v:Int)::ws.drop (i+1):=X5 .. |>.trans (by rw[ZE hi]);rw[h2,Xe,Yy];rw[h1,Xe,Yy]at hc;have:((v:Int)==-1)=false:=by rw[Yu];omega
   rw[this];simp at hc ⊢;omega
  simp only[vC,Z6,ZW,jy];constructor
  ·rintro⟨v,hv,hx⟩;by_cases bV:((v:Nat):Int)∈ws
   ·rw[ZE bV]at hx;cases hx
   ·rw[ZH bV]at hx;obtain⟨a1,a2,a3,a4⟩:=JV hp hi (by omega) (by omega) (cZ v hv bV);obtain⟨h1,h2,h3,h4,h5⟩:=(aaq W k _ ds (JY v) a1 x).1 hx;exact⟨h1,by rw[h2,a3],iq.trans a3.symm a2 h3,h4,h5⟩
  ·rintro⟨h1,h2,h3,h4,h5⟩;have O6:i<x.aB.length:=by omega
   rcases h4.rng i O6 with e|⟨e1,e2⟩
   ·exact absurd (jX.2 ⟨i,O6,e⟩) h5
   ·obtain⟨v,hv⟩:∃v:Nat,x.aB.getD i 0=v:=⟨(x.aB.getD i 0).toNat,by omega⟩
    have bV:¬((v:Nat):Int)∈ws:=λxW=>by
     obtain⟨j,hj,ej⟩:=jX.1 xW;have hx2:=h3 j hj (by rw[ej];omega);have:=h4.inj i j O6 (by omega) (by omega) (by rw[hx2,hv,ej]);subst this;rw[hw]at ej;omega
    refine⟨v,by omega,?_⟩;rw[ZH bV];obtain⟨a1,a2,a3,a4⟩:=JV hp hi (by omega) (by omega) (cZ v (by omega) bV);refine(aaq W k _ ds (JY v) a1 x).2 ⟨h1,by rw[h2,a3],λw hw' hn=>?_,h4,h5⟩;rw[xR ws i v hi]at hn ⊢;by_cases e:w=i
    ·subst e;rw[ZE rfl];exact hv
    ·rw[ZH e]at hn ⊢;exact h3 w (by omega) hn
theorem ahy (W:Nat):∀(k:Nat) (ws ds:List Int),ws.count (-1)=k->vk W ws->(vC W k ws ds).Pairwise JX
 | 0,ws,ds,_,_=>by simp[vC]
 | k+1,ws,ds,hc,hp=>by
  have hm:(-1:Int)∈ws:=X4.1 (by omega);have hi:ws.idxOf (-1)<ws.length:=XI hm;obtain⟨i,jy⟩:∃i,ws.idxOf (-1)=i:=⟨_,rfl⟩
  have hw:ws.getD i 0=-1:=by
   rw[<-jy,Zg,Zi hi];exact Vu hi
  have SK:∀j,j<i->ws.getD j 0≠-1:=λj hj e=>by
   have uY:j<ws.length:=by omega
   have uV:j<ws.idxOf (-1):=by omega
   have:=List.not_of_lt_findIdx uV;rw[Zg,Zi uY]at e;exact absurd e (by simpa using this)
  rw[jy]at hi;have cZ:∀v:Nat,¬((v:Nat):Int)∈ws->setW ws i v=some (ws.set i (v:Int)):=λv hv=>by
   unfold setW;rw[ZH (by rw[hw];simp),ZH hv]
  have JY:∀v:Nat,(ws.set i (v:Int)).count (-1)=k:=λv=>by
   have h1:ws=ws.take i++(-1)::ws.drop (i+1):=by
    rw[<-Yr i ws];conv=>lhs;rw[ZN hi]
    have:ws[i]=-1:=by rw[Zg,Zi hi]at hw;exact hw
    rw[this];simp
   have h2:ws.set i (v:Int)=ws.take i++(v:Int)::ws.drop (i+1):=X5 .. |>.trans (by rw[ZE hi]);rw[h2,Xe,Yy];rw[h1,Xe,Yy]at hc;have:((v:Int)==-1)=false:=by rw[Yu];omega
   rw[this];simp at hc ⊢;omega
  simp only[vC,jy];rw[List.pairwise_flatMap];refine⟨λv hv=>?_,?_⟩
  ·by_cases bV:((v:Nat):Int)∈ws
   ·rw[ZE bV];exact Xf
   ·rw[ZH bV];obtain⟨a1,a2,a3,a4⟩:=JV hp hi (by omega) (by have:=ZW.1 hv;omega) (cZ v bV);exact ahy W k _ ds (JY v) a1
  ·refine List.pairwise_lt_range.imp_of_mem λ{a b} ha hb hab x hx y hy=>?_;by_cases ina:((a:Nat):Int)∈ws
   ·rw[ZE ina]at hx;cases hx
   by_cases inb:((b:Nat):Int)∈ws
   ·rw[ZE inb]at hy;cases hy
   rw[ZH ina]at hx;rw[ZH inb]at hy;have hA:=ZW.1 ha;have hB:=ZW.1 hb;obtain⟨a1,a2,a3,a4⟩:=JV hp hi (by omega) (by omega) (cZ a ina);obtain⟨b1,b2,b3,b4⟩:=JV hp hi (by omega) (by omega) (cZ b inb);obtain⟨x1,x2,x3,_,_⟩:=(aaq W k _ ds (JY a) a1 x).1 hx;obtain⟨y1,y2,y3,_,_⟩:=(aaq W k _ ds (JY b) b1 y).1 hy;refine .inr ⟨by rw[x1,y1],i,by rw[x2,a3];exact hi,λj hj=>?_,?_⟩
   ·have e1:=x3 j (by rw[a3];omega) (by rw[a2 j (by omega) (SK j hj)];exact SK j hj);have e2:=y3 j (by rw[b3];omega) (by rw[b2 j (by omega) (SK j hj)];exact SK j hj);rw[e1,e2,a2 j (by omega) (SK j hj),b2 j (by omega) (SK j hj)]
   ·have e1:=x3 i (by rw[a3];omega) (by rw[a4];omega);have e2:=y3 i (by rw[b3];omega) (by rw[b4];omega);rw[e1,e2,a4,b4];omega
structure lM (g q:aF) (W V:Nat):Prop where
 gw:g.aB=W
 qw:q.aB=V
 grg:∀f∈g.ah,∀k∈f.aj++f.ay,0<=k/\k<(W:Int)
 SL:∀e∈q.ah,∀k∈e.aj++e.ay,0<=k/\k<(V:Int)
 ar:∀e∈q.ah,∀f∈g.ah,e.kind=f.kind->e.aj.length=f.aj.length/\e.ay.length=f.ay.length
theorem pF {E:List aO} {i:Nat} (h:i<E.length):E.getD i bQ∈E:=by
 rw[Zg,Zi h];exact Zp h
theorem ahz (φ:Nat->Int):∀(a:List Nat) (b:List Int),a.length=b.length->((∀p∈a.zip b,φ p.1=p.2)↔a.map φ=b)
 | [],[],_=>by simp
 | [],_::_,h=>by simp at h
 | _::_,[],h=>by simp at h
 | x::a,y::b,h=>by
  have ih:=ahz φ a b (by simpa using h);simp only[XD,ZU,Yx,WT];rw[<-ih];constructor
  ·intro h;exact⟨h (x,y) (.inl rfl),λp hp=>h p (.inr hp)⟩
  ·rintro⟨h1,h2⟩ p (rfl|hp)
   ·exact h1
   ·exact h2 p hp
theorem aed {ws:List Int} {e f:aO} (hi:e.aj.length=f.aj.length) (ho:e.ay.length=f.ay.length) :
  wL ws e f=true↔e.kind=f.kind/\e.value=f.value/\∀p∈tJ e f,ws.getD p.1 0=p.2:=by
 unfold wL tJ;rw[ahz (λk=>ws.getD k 0) _ _ (by simp;omega),YX,ZK];simp only[Zu,ZF];unfold aG;constructor
 ·rintro⟨h1,h2,h3,h4⟩;exact⟨h1,h2,by rw[<-h3,<-h4];rfl⟩
 ·rintro⟨h1,h2,h3⟩;obtain⟨h4,h5⟩:=List.append_inj h3 (by simp;exact hi);exact⟨h1,h2,h4,h5⟩
theorem JZ {g q:aF} {W V:Nat} (h:lM g q W V) {e f:aO} (he:e∈q.ah) (hf:f∈g.ah):∀p∈tJ e f,p.1<V/\0<=p.2/\p.2<(W:Int):=by
 intro p hp;obtain⟨h1,h2⟩:=YS hp;obtain⟨k,hk,e1⟩:=ZM.1 h1;have:=h.SL e he k hk;have:=h.grg f hf p.2 h2;omega
theorem ahA {l:List Int} {n:Nat}:JU l (n:Int)=true↔(vk n l/\¬(-1:Int)∈l):=by
 unfold JU iL inB;simp only[Zu,ZF,Z7];constructor
 ·rintro⟨h1,h2⟩;refine⟨⟨λw hw=>.inr ?_,λa b ha hb _ he=>?_⟩,λhm=>?_⟩
  ·have:=h1 (l.getD w 0) (jX.2 ⟨w,hw,rfl⟩);omega
  ·rw[Zg,Zi ha,Zg,Zi hb]at he;have hp:=Xr.1 h2;rcases X7 a b with h|h|h
   ·exact absurd he (hp a b ha hb h)
   ·exact h
   ·exact absurd he.symm (hp b a hb ha h)
  ·have:=h1 _ hm;omega
 ·rintro⟨h1,h2⟩;refine⟨λx hx=>?_,?_⟩
  ·obtain⟨k,hk,rfl⟩:=jX.1 hx;rcases h1.rng k hk with e|⟨e1,e2⟩
   ·rw[e]at hx;exact absurd hx h2
   ·omega
  ·refine Xr.2 λi j hi hj BM he=>?_;have hne:l.getD i 0≠-1:=λe=>h2 (jX.2 ⟨i,hi,e⟩);have:=h1.inj i j hi hj hne (by rw[Zg,Zg,Zi hi,Zi hj];exact he);omega
theorem wO {g q:aF} {W V:Nat} (h:lM g q W V) (x:aX):Ce g q x=true↔(x.aB.length=V/\x.ah.length=q.ah.length/\(vk W x.aB/\¬(-1:Int)∈x.aB)/\(vk g.ah.length x.ah/\¬(-1:Int)∈x.ah) /\
  ∀i,i<q.ah.length->(q.ah.getD i bQ).kind=(g.ah.getD (x.ah.getD i 0).toNat bQ).kind/\(q.ah.getD i bQ).value=(g.ah.getD (x.ah.getD i 0).toNat bQ).value/\∀p∈tJ (q.ah.getD i bQ) (g.ah.getD (x.ah.getD i 0).toNat bQ),x.aB.getD p.1 0=p.2):=by
 unfold Ce;rw[h.gw,h.qw];simp only[Zu,ZF,ahA,Z7,ZW];constructor
 ·rintro⟨h1,h2,h3,h4,h5⟩;refine⟨by omega,h2,h3,h4,λi hi=>?_⟩;have hd:=h4.1.rng i (by omega);have hne:x.ah.getD i 0≠-1:=λe=>h4.2 (jX.2 ⟨i,by omega,e⟩);have hm:g.ah.getD (x.ah.getD i 0).toNat bQ∈g.ah:=pF (by omega);have hs:=h5 i hi;have hk:(q.ah.getD i bQ).kind=(g.ah.getD (x.ah.getD i 0).toNat bQ).kind:=by
   unfold wL at hs;simp only[Zu,ZF]at hs;exact hs.1
  obtain⟨a1,a2⟩:=h.ar _ (pF hi) _ hm hk;exact(aed a1 a2).1 hs
 ·rintro⟨h1,h2,h3,h4,h5⟩;refine⟨by omega,h2,h3,h4,λi hi=>?_⟩;have hd:=h4.1.rng i (by omega);have hne:x.ah.getD i 0≠-1:=λe=>h4.2 (jX.2 ⟨i,by omega,e⟩);have hm:g.ah.getD (x.ah.getD i 0).toNat bQ∈g.ah:=pF (by omega);obtain⟨hk,hv,hp⟩:=h5 i hi;obtain⟨a1,a2⟩:=h.ar _ (pF hi) _ hm hk;exact(aed a1 a2).2 ⟨hk,hv,hp⟩
structure SN (g q:aF) (W V:Nat) (ws ds:List Int):Prop where
 wl:ws.length=V
 pw:vk W ws
 dl:ds.length<=q.ah.length
 pd:vk g.ah.length ds
 dn:¬(-1:Int)∈ds
 im:∀i,i<ds.length->(q.ah.getD i bQ).kind=(g.ah.getD (ds.getD i 0).toNat bQ).kind/\(q.ah.getD i bQ).value=(g.ah.getD (ds.getD i 0).toNat bQ).value/\∀p∈tJ (q.ah.getD i bQ) (g.ah.getD (ds.getD i 0).toNat bQ),ws.getD p.1 0=p.2
theorem J4 {ds:List Int} {f:Int} {i:Nat} (h:i<ds.length):(ds++[f]).getD i 0=ds.getD i 0:=by
 rw[Zg,Yz h,<-Zg]
theorem O7 {ds:List Int} {f:Int}:(ds++[f]).getD ds.length 0=f:=by simp[Zg]
theorem SN.next {g q:aF} {W V:Nat} (hq:lM g q W V) {ws ws' ds:List Int} (h:SN g q W V ws ds) (hl:ds.length<q.ah.length) {f:Nat} (hf:f<g.ah.length) (hn:¬((f:Nat):Int)∈ds)
  (hk:(q.ah.getD ds.length bQ).kind=(g.ah.getD f bQ).kind) (hv:(q.ah.getD ds.length bQ).value=(g.ah.getD f bQ).value) (hs:mY ws (tJ (q.ah.getD ds.length bQ) (g.ah.getD f bQ))=some ws') :
  SN g q W V ws' (ds++[(f:Int)])/\iq ws ws':=by
 have hrg:=JZ hq (pF hl) (pF hf);obtain⟨a1,a2,a3,a4⟩:=ab6 h.pw (λp hp=>by rw[h.wl];exact hrg p hp) hs;refine⟨⟨a3.trans h.wl,a1,by simp;omega,⟨λw hw=>?_,λa b ha hb hne he=>?_⟩,λhm=>?_,λi hi=>?_⟩,a2⟩
 ·rcases Yj w ds.length with hlt|qW
  ·rw[J4 hlt];exact h.pd.rng w hlt
  ·obtain rfl:w=ds.length:=by simp at hw;omega
   rw[O7];exact .inr (by omega)
 ·rcases Yj a ds.length with ha'|ha'
  ·rcases Yj b ds.length with hb'|hb'
   ·rw[J4 ha']at hne he;rw[J4 hb']at he;exact h.pd.inj a b ha' hb' hne he
   ·obtain rfl:b=ds.length:=by simp at hb;omega
    rw[J4 ha',O7]at he;exact absurd (jX.2 ⟨a,ha',he⟩) hn
  ·obtain rfl:a=ds.length:=by simp at ha;omega
   rcases Yj b ds.length with hb'|hb'
   ·rw[J4 hb',O7]at he;exact absurd (jX.2 ⟨b,hb',he.symm⟩) hn
   ·simp at hb;omega
 ·rcases Zs.1 hm with h1|h1
  ·exact h.dn h1
  ·have:=ZS.1 h1;omega
 ·rcases Yj i ds.length with hlt|qW
  ·rw[J4 hlt];obtain⟨h1,h2,h3⟩:=h.im i hlt;have hd:=h.pd.rng i hlt;have hne:ds.getD i 0≠-1:=λe=>h.dn (jX.2 ⟨i,hlt,e⟩);have FP:=h.dl;have hr:=JZ hq (pF (E:=q.ah) (i:=i) (by omega)) (pF (E:=g.ah) (i:=(ds.getD i 0).toNat) (by omega));refine⟨h1,h2,λp hp=>?_⟩;have:=hr p hp;rw[a2 p.1 (by rw[h.wl];omega) (by rw[h3 p hp];omega),h3 p hp]
  ·obtain rfl:i=ds.length:=by simp at hi;omega
   rw[O7];exact⟨hk,hv,a4⟩
theorem aok {α:Type} {l m:List α} (h:l.take m.length=m) (hl:l.length=m.length):l=m:=by
 rw[<-h,<-hl,ZY]
theorem ab8 {g q:aF} {W V:Nat} (hq:lM g q W V):∀(r:Nat) (ws ds:List Int),ds.length+r=q.ah.length->SN g q W V ws ds ->
  ∀x,x∈wM g q r ws ds↔(Ce g q x=true/\iq ws x.aB/\x.ah.take ds.length=ds)
 | 0,ws,ds,hl,hS,x=>by
  rw[wM,hq.gw,Zr,aaq W _ ws ds rfl hS.pw,wO hq];constructor
  ·rintro⟨h1,h2,h3,h4,h5⟩;subst h1;refine⟨⟨by rw[h2,hS.wl],by omega,⟨h4,h5⟩,⟨hS.pd,hS.dn⟩,λi hi=>?_⟩,h3,by rw[ZY]⟩;obtain⟨e1,e2,e3⟩:=hS.im i (by omega);refine⟨e1,e2,λp hp=>?_⟩;have hd:=hS.pd.rng i (by omega);have hne:x.ah.getD i 0≠-1:=λe=>hS.dn (jX.2 ⟨i,by omega,e⟩);have hr:=JZ hq (pF hi) (pF (E:=g.ah) (i:=(x.ah.getD i 0).toNat) (by omega)) p hp;rw[h3 p.1 (by rw[hS.wl];omega) (by rw[e3 p hp];omega),e3 p hp]
  ·rintro⟨⟨h1,h2,h3,h4,h5⟩,h6,h7⟩;exact⟨aok h7 (by omega),by rw[h1,hS.wl],h6,h3.1,h3.2⟩
 | r+1,ws,ds,hl,hS,x=>by
  have hlt:ds.length<q.ah.length:=by omega
  simp only[wM,Z6,ZW];constructor
  ·rintro⟨f,hf,hx⟩;by_cases hc:((f:Nat):Int)∈ds\/(q.ah.getD ds.length bQ).kind≠(g.ah.getD f bQ).kind\/(q.ah.getD ds.length bQ).value≠(g.ah.getD f bQ).value
   ·rw[ZE hc]at hx;cases hx
   ·rw[ZH hc]at hx;simp only[not_or,X9]at hc;cases hs:mY ws (tJ (q.ah.getD ds.length bQ) (g.ah.getD f bQ))with
    | none=>rw[hs]at hx;cases hx
    | some ws' =>
     rw[hs]at hx;obtain⟨MZ,hE⟩:=hS.next hq hlt hf hc.1 hc.2.1 hc.2.2 hs;obtain⟨h1,h2,h3⟩:=(ab8 hq r ws' _ (by simp;omega) MZ x).1 hx;refine⟨h1,iq.trans (by rw[hS.wl,MZ.wl]) hE h2,?_⟩;have:=congrArg (List.take ds.length) h3;rw[Wq]at this;simpa using this
  ·rintro⟨h1,h2,h3⟩;obtain⟨m1,m2,m3,m4,m5⟩:=(wO hq x).1 h1;have hi:ds.length<x.ah.length:=by omega
   have hd:=m4.1.rng ds.length hi;have hne:x.ah.getD ds.length 0≠-1:=λe=>m4.2 (jX.2 ⟨_,hi,e⟩);obtain⟨f,hf⟩:∃f:Nat,x.ah.getD ds.length 0=f:=⟨(x.ah.getD ds.length 0).toNat,by omega⟩
   obtain⟨e1,e2,e3⟩:=m5 ds.length hlt;rw[hf,Zr]at e1 e2 e3;have jS:f<g.ah.length:=by omega
   have hdx:∀j,j<ds.length->x.ah.getD j 0=ds.getD j 0:=λj hj=>by
    rw[<-h3,Zg,Zg,Wy hj]
   have hn:¬((f:Nat):Int)∈ds:=λhm=>by
    obtain⟨j,hj,ej⟩:=jX.1 hm;have:=m4.1.inj ds.length j hi (by omega) hne (by rw[hf,hdx j hj,ej]);omega
   have hrg:=JZ hq (pF hlt) (pF jS);obtain⟨ws',hs,hE,qZ⟩:=ab7 (x:=x.aB) (λa b ha hb he=>m3.1.inj a b ha hb (λe=>m3.2 (jX.2 ⟨a,ha,e⟩)) he) (ps:=tJ (q.ah.getD ds.length bQ) (g.ah.getD f bQ)) (ws:=ws) (by rw[hS.wl,m1])
    (λp hp=>by have:=hrg p hp;rw[hS.wl];omega) h2 e3
   obtain⟨MZ,_⟩:=hS.next hq hlt jS hn e1 e2 hs;refine⟨f,jS,?_⟩;rw[ZH (by simp only[not_or,X9];exact⟨hn,e1,e2⟩),hs];refine(ab8 hq r ws' _ (by simp;omega) MZ x).2 ⟨h1,hE,?_⟩;rw[Zk,ZT,Zv hi,h3];congr 2;rw[Zg,Zi hi]at hf;exact hf
theorem ahB {g q:aF} {W V:Nat} (hq:lM g q W V):∀(r:Nat) (ws ds:List Int),ds.length+r=q.ah.length->SN g q W V ws ds->(wM g q r ws ds).Pairwise JX
 | 0,ws,ds,hl,hS=>by
  rw[wM,hq.gw,Zr];exact ahy W _ ws ds rfl hS.pw
 | r+1,ws,ds,hl,hS=>by
  have hlt:ds.length<q.ah.length:=by omega
  have step:∀f:Nat,f<g.ah.length->∀x,x∈(if((f:Nat):Int)∈ds\/(q.ah.getD ds.length bQ).kind≠(g.ah.getD f bQ).kind\/(q.ah.getD ds.length bQ).value≠(g.ah.getD f bQ).value then[]
    else match mY ws (tJ (q.ah.getD ds.length bQ) (g.ah.getD f bQ))with|none=>[]|some ws'=>wM g q r ws' (ds++[(f:Int)]))->x.ah.take (ds.length+1)=ds++[(f:Int)]/\ds.length<x.ah.length:=by
   intro f hf x hx;by_cases hc:((f:Nat):Int)∈ds\/(q.ah.getD ds.length bQ).kind≠(g.ah.getD f bQ).kind\/(q.ah.getD ds.length bQ).value≠(g.ah.getD f bQ).value
   ·rw[ZE hc]at hx;cases hx
   ·rw[ZH hc]at hx;simp only[not_or,X9]at hc;cases hs:mY ws (tJ (q.ah.getD ds.length bQ) (g.ah.getD f bQ))with
    | none=>rw[hs]at hx;cases hx
    | some ws' =>
     rw[hs]at hx;obtain⟨MZ,hE⟩:=hS.next hq hlt hf hc.1 hc.2.1 hc.2.2 hs;obtain⟨h1,h2,h3⟩:=(ab8 hq r ws' _ (by simp;omega) MZ x).1 hx;rw[Zk,ZT]at h3;exact⟨h3,by have:=((wO hq x).1 h1).2.1;omega⟩
  rw[wM,List.pairwise_flatMap];refine⟨λf hf=>?_,?_⟩
  ·have hf:=ZW.1 hf;by_cases hc:((f:Nat):Int)∈ds\/(q.ah.getD ds.length bQ).kind≠(g.ah.getD f bQ).kind\/(q.ah.getD ds.length bQ).value≠(g.ah.getD f bQ).value
   ·rw[ZE hc];exact Xf
   ·rw[ZH hc];simp only[not_or,X9]at hc;cases hs:mY ws (tJ (q.ah.getD ds.length bQ) (g.ah.getD f bQ))with
    | none=>exact Xf
    | some ws' =>
     obtain⟨MZ,hE⟩:=hS.next hq hlt hf hc.1 hc.2.1 hc.2.2 hs;exact ahB hq r ws' _ (by simp;omega) MZ
  ·refine List.pairwise_lt_range.imp_of_mem λ{a b} ha hb hab x hx y hy=>?_;obtain⟨x1,x2⟩:=step a (ZW.1 ha) x hx;obtain⟨y1,y2⟩:=step b (ZW.1 hb) y hy;have ex:∀j,j<ds.length+1->x.ah.getD j 0=(ds++[(a:Int)]).getD j 0:=λj hj=>by
    rw[<-x1,Zg,Zg,Wy hj]
   have ey:∀j,j<ds.length+1->y.ah.getD j 0=(ds++[(b:Int)]).getD j 0:=λj hj=>by
    rw[<-y1,Zg,Zg,Wy hj]
   refine .inl ⟨ds.length,x2,λj hj=>?_,?_⟩
   ·rw[ex j (by omega),ey j (by omega),J4 hj,J4 hj]
   ·rw[ex _ (by omega),ey _ (by omega),O7,O7];omega
theorem ahC {g q:aF} {W V:Nat} (hq:lM g q W V):SN g q W V (List.replicate V (-1)) [] :=
 ⟨by simp,⟨λw hw=>.inl (by simp at hw;simp[Zg,hw]),λa b ha hb hn=>by simp at ha;simp[Zg,ha]at hn⟩,Zw _,⟨λw hw=>by simp at hw,λa b ha=>by simp at ha⟩,by simp,λi hi=>by simp at hi⟩
theorem M_ {g q:aF} {W V:Nat} (hq:lM g q W V) (x:aX):x∈xU g q↔Ce g q x=true:=by
 unfold xU;rw[hq.qw,Zr,ab8 hq q.ah.length _ [] (by simp) (ahC hq) x];constructor
 ·exact λh=>h.1
 ·intro h;refine⟨h,λw hw hn=>?_,by simp⟩;simp at hw;simp[Zg,hw]at hn
theorem aee {g q:aF} {W V:Nat} (hq:lM g q W V):(xU g q).Pairwise JX:=by
 unfold xU;rw[hq.qw,Zr];exact ahB hq _ _ _ (by simp) (ahC hq)
def ab9 (ws x:List Int):Bool:=(List.range ws.length).all λw=>(ws.getD w 0==-1) ||(x.getD w 0==ws.getD w 0)
theorem Cj {ws x:List Int}:ab9 ws x=true↔iq ws x:=by
 unfold ab9 iq;simp only[Z7,ZW,Wo,XY];constructor
 ·intro h w hw hn;exact(h w hw).resolve_left hn
 ·intro h w hw;rcases WR (ws.getD w 0=-1)with e|e
  ·exact .inl e
  ·exact .inr (h w hw e)
def pG (g q:aF) (ws es:List Int):List aX:=(xU g q).filter λx=>ab9 ws x.aB&&ab9 es x.ah
theorem aef {α:Type} (φ:α->Int) (k:Int):∀(l:List α),l.Pairwise (λx y=>φ x<=φ y)->l.filter (λx=>decide (φ x<k+1))=l.filter (λx=>decide (φ x<k))++l.filter (λx=>decide (φ x=k))
 | [],_=>rfl
 | a::l,h=>by
  obtain⟨h1,h2⟩:=Yd.1 h;have ih:=aef φ k l h2;rcases Int.lt_trichotomy (φ a) k with hlt|JH|hgt
  ·rw[Xn (by simp;omega),Xn (by simpa using hlt),Y9 (by simp;omega),ih];rfl
  ·have hn:l.filter (λx=>decide (φ x<k))=[]:=YP.2 λx hx=>by have:=h1 x hx;simp;omega
   rw[Xn (by simp;omega),Y9 (by simp;omega),Xn (by simpa using JH),ih,hn];rfl
  ·have hn:∀m,m<=k+1->l.filter (λx=>decide (φ x<m))=[]:=λm hm=>YP.2 λx hx=>by have:=h1 x hx;simp;omega
   have he:l.filter (λx=>decide (φ x=k))=[]:=YP.2 λx hx=>by have:=h1 x hx;simp;omega
   rw[Y9 (by simp;omega),Y9 (by simp;omega),Y9 (by simp;omega),hn _ (Wx _),hn k (by omega),he];rfl
theorem filter_one {α:Type} {R:α->α->Prop} (hR:∀{x y},R x y->x≠y) {p:α->Bool} {a:α}:∀{l:List α},l.Pairwise R->a∈l->(∀x∈l,p x=true↔x=a)->l.filter p=[a]
 | [],_,hm,_=>by cases hm
 | b::l,h,hm,hp=>by
  obtain⟨h1,h2⟩:=Yd.1 h;rcases ZU.1 hm with rfl|hm
  ·have hn:l.filter p=[]:=YP.2 λx hx e=>hR (h1 x hx) ((hp x (by simp[hx])).1 e).symm;rw[Xn ((hp a (by simp)).2 rfl),hn]
  ·have hb:¬p b=true:=λe=>hR (h1 a hm) ((hp b (by simp)).1 e);rw[Y9 hb];exact filter_one hR h2 hm (λx hx=>hp x (by simp[hx]))
theorem ahD {g q:aF} {W V:Nat} (hq:lM g q W V) {ws es:List Int} {e:Nat} (he:e<=es.length) (hf:∀j,j<e->es.getD j 0≠-1):(pG g q ws es).Pairwise λx y=>x.ah.getD e 0<=y.ah.getD e 0:=by
 refine((aee hq).filter _).imp_of_mem λ{x y} hx hy wP=>?_;have ex:=Cj.1 (Xv.1 (YJ.1 hx).2).2;have ey:=Cj.1 (Xv.1 (YJ.1 hy).2).2;rcases wP with⟨k,hk,h1,h2⟩|⟨h1,_⟩
 ·rcases X7 k e with h|h|h
  ·have:=ex k (by omega) (hf k h);have:=ey k (by omega) (hf k h);omega
  ·subst h;omega
  ·rw[h1 e h];exact Wx _
 ·rw[h1];exact Wx _
theorem ahE {g q:aF} {W V:Nat} (hq:lM g q W V) {ws es:List Int} {w:Nat} (hw:w<=ws.length) (hf:∀j,j<w->ws.getD j 0≠-1) (hl:es.length=q.ah.length) (he:∀j,j<es.length->es.getD j 0≠-1):(pG g q ws es).Pairwise λx y=>x.aB.getD w 0<=y.aB.getD w 0:=by
 refine((aee hq).filter _).imp_of_mem λ{x y} hx hy wP=>?_;have mx:=(wO hq x).1 ((M_ hq x).1 (YJ.1 hx).1);have my:=(wO hq y).1 ((M_ hq y).1 (YJ.1 hy).1);have ex:=Cj.1 (Xv.1 (YJ.1 hx).2).2;have ey:=Cj.1 (Xv.1 (YJ.1 hy).2).2;have fx:=Cj.1 (Xv.1 (YJ.1 hx).2).1;have fy:=Cj.1 (Xv.1 (YJ.1 hy).2).1;rcases wP with⟨k,hk,h1,h2⟩|⟨_,k,hk,h1,h2⟩
 ·have eH:k<es.length:=by have:=mx.2.1;omega
  have:=ex k eH (he k eH);have:=ey k eH (he k eH);omega
 ·rcases X7 k w with h|h|h
  ·have:=fx k (by omega) (hf k h);have:=fy k (by omega) (hf k h);omega
  ·subst h;omega
  ·rw[h1 w h];exact Wx _
end Go.Proofs.YtkhpobekconobaaGreat
