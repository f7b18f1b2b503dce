import Derived.Test.YtkhpobekconobaaGreatHAN
set_option linter.all false
set_option maxRecDepth 100000
set_option maxHeartbeats 0
namespace Go.Proofs.YtkhpobekconobaaGreat
theorem acM {α β:Type} {l:List α} {H:α->β} (hn:l.Nodup) (h:∀a∈l,∀b∈l,H a=H b->a=b):(l.map H).Nodup:=by
 unfold List.Nodup at hn ⊢;rw[List.pairwise_map];exact hn.imp_of_mem λha hb hne e=>hne (h _ ha _ hb e)
theorem aiC {f:Nat->Int} {n:Nat}:∀(ps:List (Nat×Nat)) (cl:List Nat),cl.length=n->(∀w,w<n->cl.getD w 0<n)->(∀p∈ps,p.1<n/\p.2<n/\f p.1=f p.2)->(∀w,w<n->f (cl.getD w 0)=f w)->∀w,w<n->f ((A_ cl ps).getD w 0)=f w
 | [],cl,_,_,_,h=>h
 | p::r,cl,hl,hr,hp,h=>by
  obtain⟨p1,p2,p3⟩:=hp p (by simp);have key:∀w,w<n->(joinL cl p.1 p.2).getD w 0<n/\f ((joinL cl p.1 p.2).getD w 0)=f w:=by
   intro w hw;rw[acN cl _ _ w (by omega)];have hx:=h p.1 p1;have hy:=h p.2 p2;have rx:=hr p.1 p1;have ry:=hr p.2 p2;have dQ:=h w hw;have hw2:=hr w hw;generalize cl.getD p.1 0=x at *;generalize cl.getD p.2 0=y at *;generalize cl.getD w 0=z at *;split
   ·rename_i e
    rcases WM x y with hh|hh
    ·rw[show Nat.min x y=x from YR hh];rw[show Nat.max x y=y from We hh]at e;subst e;exact⟨rx,by rw[hx,p3,<-hy,dQ]⟩
    ·rw[show Nat.min x y=y from Wd hh];rw[show Nat.max x y=x from Wl hh]at e;subst e;exact⟨ry,by rw[hy,<-p3,<-hx,dQ]⟩
   ·exact⟨hw2,dQ⟩
  exact aiC r (joinL cl p.1 p.2) (by rw[TI];exact hl) (λw hw=>(key w hw).1) (λq hq=>hp q (by simp[hq])) (λw hw=>(key w hw).2)
theorem aiD:∀(ps:List (Nat×Nat)) (cl:List Nat) (v w:Nat),v<cl.length->w<cl.length->cl.getD v 0=cl.getD w 0->(A_ cl ps).getD v 0=(A_ cl ps).getD w 0
 | [],cl,v,w,_,_,h=>h
 | p::r,cl,v,w,hv,hw,h=>by
  refine aiD r (joinL cl p.1 p.2) v w (by rw[TI];exact hv) (by rw[TI];exact hw) ?_;rw[acN cl _ _ v hv,acN cl _ _ w hw,h]
theorem aiE:∀(ps:List (Nat×Nat)) (cl:List Nat),(∀p∈ps,p.1<cl.length/\p.2<cl.length)->∀p∈ps,(A_ cl ps).getD p.1 0=(A_ cl ps).getD p.2 0
 | [],cl,_,p,hp=>by cases hp
 | q::r,cl,hl,p,hp=>by
  rcases ZU.1 hp with rfl|hp
  ·obtain⟨h1,h2⟩:=hl p (by simp);refine aiD r (joinL cl p.1 p.2) p.1 p.2 (by rw[TI];exact h1) (by rw[TI];exact h2) ?_;rw[acN cl _ _ _ h1,acN cl _ _ _ h2];generalize cl.getD p.1 0=x;generalize cl.getD p.2 0=y;rcases WM x y with hh|hh
   ·rw[show Nat.min x y=x from YR hh,show Nat.max x y=y from We hh];by_cases e:x=y
    ·rw[ZE e,ZE rfl]
    ·rw[ZH e,ZE rfl]
   ·rw[show Nat.min x y=y from Wd hh,show Nat.max x y=x from Wl hh];by_cases e:y=x
    ·rw[ZE rfl,ZE e]
    ·rw[ZE rfl,ZH e]
  ·exact aiE r (joinL cl q.1 q.2) (λs hs=>by rw[TI];exact hl s (by simp[hs])) p hp
theorem aiF {cl:List Nat} {us:Nat->Bool} {a b:Nat} (h:a<=b):CW cl us a<=CW cl us b:=by
 induction h with
 | refl=>exact Zj _
 | step _ ih=>rw[avX];omega
theorem ap6 {cl:List Nat} {us:Nat->Bool} {v w:Nat} (hc:apF cl) (hv:v<cl.length) (hw:w<cl.length) (uv:us (cl.getD v 0)=true) (uw:us (cl.getD w 0)=true) (h:Ny cl us v=Ny cl us w):cl.getD v 0=cl.getD w 0:=by
 unfold Ny at h;rw[ZE uv,ZE uw]at h;have iv:=hc.idem v hv;have iw:=hc.idem w hw;generalize cl.getD v 0=r at *;generalize cl.getD w 0=s at *;rcases X7 r s with hh|hh|hh
 ·have h1:=aiF (cl:=cl) (us:=us) (show r+1<=s by omega);rw[aeP iv uv]at h1;omega
 ·exact hh
 ·have h1:=aiF (cl:=cl) (us:=us) (show s+1<=r by omega);rw[aeP iw uw]at h1;omega
theorem acO (g:aF) (T:Nat) (ps:List (Nat×Nat)) {k:Int} (h0:0<=k) (h1:k<(T:Int)):(kY g T ps).getD k.toNat 0=Ny (A_ (wU T) ps) (Gh g (A_ (wU T) ps)) k.toNat:=by
 have hl:k.toNat<(kY g T ps).length:=by unfold kY;rw[uI];omega
 rw[Zg,Zi hl,YL];unfold kY at hl ⊢;rw[aaD]
theorem aiG {g:aF} {cl:List Nat} {k:Int} (h:k∈g.places):Gh g cl (cl.getD k.toNat 0)=true:=by
 unfold Gh;rw[XA];exact⟨k,h,by simp⟩
theorem aiH {u:aF} {T:Nat} {ps:List (Nat×Nat)} {Z:List (Int×Int)} {l:List Int} (hp:∀p∈ps,(p.1<T/\p.2<T)/\(((p.1:Int),(p.2:Int))∈Z\/((p.2:Int),(p.1:Int))∈Z))
  (acP:∀p∈Z,∀p'∈Z,p.1=p'.1->p.2=p'.2) (acQ:∀p∈Z,∀p'∈Z,p.1≠p'.2) (hT:∀k∈u.places,0<=k/\k<(T:Int)) (hl:∀k∈l,k∈u.places) (hn:l.Nodup)
  (h2:∀p∈Z,p.1∈l->¬p.2∈l) (h3:∀p∈Z,∀p'∈Z,p.1∈l->p'.1∈l->p.2=p'.2->p.1=p'.1):(aG (kY u T ps) l).Nodup:=by
 obtain⟨f,f1,f2⟩:∃f:Int->Int,(∀p∈Z,f p.1=p.2)/\∀x,(∀p∈Z,p.1≠x)->f x=x:=by
  refine⟨λx=>open Classical in if h:∃p∈Z,p.1=x then h.choose.2 else x,λp IU=>?_,λx hx=>?_⟩
  ·have h:∃q∈Z,q.1=p.1:=⟨p,IU,rfl⟩
   exact(dif_pos h).trans (acP _ h.choose_spec.1 _ IU h.choose_spec.2)
  ·exact dif_neg (by rintro⟨p,IU,e⟩;exact hx p IU e)
 obtain⟨hc,iQ⟩:=aio T ps λp h=>(hp p h).1;have aiI:∀p∈Z,f p.2=p.2:=λp IU=>f2 _ λp' zV=>acQ p' zV p IU;have aaK:=aiC (f:=λn:Nat=>f (n:Int)) (n:=T) ps (wU T) (by simp[wU]) (λw hw=>by simp[wU,Zg,hw]) (λp h=>by
  obtain⟨⟨a,b⟩,c⟩:=hp p h;refine⟨a,b,?_⟩;rcases c with c|c
  ·have e1:=f1 _ c;have e2:=aiI _ c;exact e1.trans e2.symm
  ·have e1:=f1 _ c;have e2:=aiI _ c;exact e2.trans e1.symm) (λw hw=>by simp[wU,Zg,hw])
 unfold aG;refine acM hn λa ha b hb e=>?_;obtain⟨a0,a1⟩:=hT a (hl a ha);obtain⟨b0,b1⟩:=hT b (hl b hb);rw[acO u T ps a0 a1,acO u T ps b0 b1]at e;have ec:=ap6 hc (by omega) (by omega) (aiG (hl a ha)) (aiG (hl b hb)) e;have ra:=aaK a.toNat (by omega)
 have rb:=aaK b.toNat (by omega)
 rw[ec]at ra;have IV:f a=f b:=by
  have:=ra.symm.trans rb;rwa [Vp a0,Vp b0]at this
 by_cases qa:∃p∈Z,p.1=a
 ·obtain⟨p,IU,rfl⟩:=qa;rw[f1 p IU]at IV;by_cases qb:∃p∈Z,p.1=b
  ·obtain⟨p',aaL,rfl⟩:=qb;rw[f1 p' aaL]at IV;exact h3 p IU p' aaL ha hb IV
  ·rw[f2 b (λp' h' e'=>qb ⟨p',h',e'⟩)]at IV;exact absurd (IV▸hb) (h2 p IU ha)
 ·rw[f2 a (λp' h' e'=>qa ⟨p',h',e'⟩)]at IV;by_cases qb:∃p∈Z,p.1=b
  ·obtain⟨p',aaL,rfl⟩:=qb;rw[f1 p' aaL]at IV;exact absurd (IV▸ha) (h2 p' aaL hb)
  ·rw[f2 b (λp' h' e'=>qb ⟨p',h',e'⟩)]at IV;exact IV
theorem ap7 {u:aF} {T:Nat} {ps:List (Nat×Nat)} (hp:∀p∈ps,p.1<T/\p.2<T) {p:Nat×Nat} (h:p∈ps):(kY u T ps).getD p.1 0=(kY u T ps).getD p.2 0:=by
 obtain⟨a,b⟩:=hp p h;have e1:=acO u T ps (k:=(p.1:Int)) (by omega) (by omega);have e2:=acO u T ps (k:=(p.2:Int)) (by omega) (by omega);rw[Zr]at e1 e2;rw[e1,e2];unfold Ny;rw[aiE ps (wU T) (λp hq=>by simp[wU];exact hp p hq) p h]
theorem aiJ (g:aF) (c:Int) (tz:List Int):(mZ g c tz).iM=aG tz g.iM:=by
 simp only[aF.iM,mZ,aG,ZK,List.flatMap_map,List.map_flatMap,jm]
theorem aiK (g:aF) (c:Int) (tz:List Int):(mZ g c tz).iZ=aG tz g.iZ:=by
 simp only[aF.iZ,mZ,aG,ZK,List.flatMap_map,List.map_flatMap,jm]
theorem ap8 (tz a b:List Int):aG tz (a++b)=aG tz a++aG tz b:=ZK
theorem PO {g:aF} {k:Int}:k∈g.iM↔k∈g.aj\/∃e∈g.ah,k∈e.ay:=by
 unfold aF.iM;simp only[Zs,Z6]
theorem NG {g:aF} {k:Int}:k∈g.iZ↔k∈g.ay\/∃e∈g.ah,k∈e.aj:=by
 unfold aF.iZ;simp only[Zs,Z6]
theorem aaM {g:aF} {k:Int} (h:k∈g.iM):k∈g.places:=by
 rcases PO.1 h with h|⟨e,he,h⟩
 ·exact mem_pl.2 (.inl h)
 ·exact mem_pl.2 (.inr (.inr ⟨e,he,.inr h⟩))
theorem aeQ {g:aF} {k:Int} (h:k∈g.iZ):k∈g.places:=by
 rcases NG.1 h with h|⟨e,he,h⟩
 ·exact mem_pl.2 (.inr (.inl h))
 ·exact mem_pl.2 (.inr (.inr ⟨e,he,.inl h⟩))
structure Bj (g:aF):Prop where
 o:g.iM.Nodup
 d:g.iZ.Nodup
structure Gi (g:aF):Prop where
 nd:Bj g
 co:∀k∈g.ay,k∈g.iM
 ci:∀k∈g.aj,k∈g.iZ
theorem aiL {α β:Type}:∀{l:List α} {m:List β},l.Nodup->∀{x:α} {y y':β},(x,y)∈l.zip m->(x,y')∈l.zip m->y=y'
 | [],m,_,x,y,y',h,_=>by simp at h
 | a::l,[],_,x,y,y',h,_=>by simp at h
 | a::l,b::m,hn,x,y,y',h,h'=>by
  rw[XD]at h h';have h0:=(Wm.1 hn).1;rcases ZU.1 h with e|h
  ·rcases ZU.1 h' with e'|h'
   ·rw[YG]at e e';rw[e.2,e'.2]
   ·rw[YG]at e;exact absurd (e.1▸(YS h').1) h0
  ·rcases ZU.1 h' with e'|h'
   ·rw[YG]at e';exact absurd (e'.1▸(YS h).1) h0
   ·exact aiL (Wm.1 hn).2 h h'
theorem aiM {α β:Type}:∀{l:List α} {m:List β},m.Nodup->∀{x x':α} {y:β},(x,y)∈l.zip m->(x',y)∈l.zip m->x=x'
 | [],m,_,x,x',y,h,_=>by simp at h
 | a::l,[],_,x,x',y,h,_=>by simp at h
 | a::l,b::m,hn,x,x',y,h,h'=>by
  rw[XD]at h h';have h0:=(Wm.1 hn).1;rcases ZU.1 h with e|h
  ·rcases ZU.1 h' with e'|h'
   ·rw[YG]at e e';rw[e.1,e'.1]
   ·rw[YG]at e;exact absurd (e.2▸(YS h').2) h0
  ·rcases ZU.1 h' with e'|h'
   ·rw[YG]at e';exact absurd (e'.2▸(YS h).2) h0
   ·exact aiM (Wm.1 hn).2 h h'
theorem acR (n:Nat):(dW n).Nodup:=acM (List.nodup_range) λa _ b _ e=>by have:(a:Int)=(b:Int):=e;omega
theorem aiN {n:Nat} {k:Int}:k∈dW n↔0<=k/\k<(n:Int):=by
 unfold dW;rw[ZM];constructor
 ·rintro⟨a,ha,rfl⟩;have:=ZW.1 ha;omega
 ·rintro⟨h1,h2⟩;exact⟨k.toNat,ZW.2 (by omega),by omega⟩
theorem aiO (a n:Nat):(bY a n).Nodup:=acM (List.nodup_range) λx _ y _ e=>by have:((x+a:Nat):Int)=((y+a:Nat):Int):=e;omega
theorem aiP {a n:Nat} {k:Int}:k∈bY a n↔(a:Int)<=k/\k<((a+n:Nat):Int):=by
 unfold bY;rw[ZM];constructor
 ·rintro⟨x,hx,rfl⟩;have:=ZW.1 hx;omega
 ·rintro⟨h1,h2⟩;exact⟨k.toNat-a,ZW.2 (by omega),by omega⟩
theorem ap9 (a n:Nat):(dW a++bY a n).Nodup:=Yk.2 ⟨acR a,aiO a n,λx hx y hy e=>by
 have:=aiN.1 hx;have:=aiP.1 hy;omega⟩
theorem aqa (a n:Nat):(bY a n++dW a).Nodup:=Yk.2 ⟨aiO a n,acR a,λx hx y hy e=>by
 have:=aiP.1 hx;have:=aiN.1 hy;omega⟩
theorem aqb (n:Nd):Gi (vM n):=by
 unfold vM;split
 ·refine⟨⟨?_,?_⟩,λk hk=>PO.2 (.inl hk),λk hk=>NG.2 (.inl hk)⟩
  ·simpa[aF.iM,DT]using acR _
  ·simpa[aF.iZ,DT]using acR _
 ·split
  ·refine⟨⟨by decide,by decide⟩,λk hk=>?_,λk hk=>?_⟩
   ·have eH:k∈[(1:Int),0]:=hk;refine PO.2 (.inl ?_);show k∈[(0:Int),1];simp only[ZU,YM,XM]at eH ⊢;omega
   ·have eH:k∈[(0:Int),1]:=hk;refine NG.2 (.inl ?_);show k∈[(1:Int),0];simp only[ZU,YM,XM]at eH ⊢;omega
  ·generalize(fJ n.kind).1.toNat=a;generalize(fJ n.kind).2.toNat=b;refine⟨⟨?_,?_⟩,λk hk=>PO.2 (.inr ⟨_,ZS.2 rfl,hk⟩),λk hk=>NG.2 (.inr ⟨_,ZS.2 rfl,hk⟩)⟩
   ·simpa[aF.iM,Bf]using ap9 a b
   ·simpa[aF.iZ,Bf]using aqa a b
theorem TJ {a:Nat} {l:List Int} (h:l.Nodup):(l.map λk:Int=>k+(a:Int)).Nodup:=acM h λx _ y _ e=>by have:x+(a:Int)=y+(a:Int):=e;omega
theorem aiQ {a b:Nat} {E:List aO} (h:∀e∈E,∀k∈e.aj++e.ay,0<=k/\k<(b:Int)) :
  ((E.map (jm (bY a b))).flatMap aO.ay=(E.flatMap aO.ay).map λk:Int=>k+(a:Int))/\(E.map (jm (bY a b))).flatMap aO.aj=(E.flatMap aO.aj).map λk:Int=>k+(a:Int):=by
 induction E with
 | nil=>exact⟨rfl,rfl⟩
 | cons e E ih =>
  obtain⟨i1,i2⟩:=ih λx hx=>h x (by simp[hx]);have he:=h e (by simp);simp only[Yx,Yt,ZK];rw[i1,i2];refine⟨?_,?_⟩
  ·congr 1;exact PK λk hk=>he k (by simp[hk])
  ·congr 1;exact PK λk hk=>he k (by simp[hk])
theorem aqc {a b:aF} (ha:aY a=true) (hb:aY b=true) (ma:Gi a) (mb:Gi b):Gi (ql a b):=by
 obtain⟨⟨G,g0,g1⟩,g2,g3,g4,g5,g6⟩:=eF ha;obtain⟨⟨R,r0,r1⟩,r2,r3,r4,r5,r6⟩:=eF hb;have eG:a.aB.toNat=G:=by omega
 have eR:b.aB.toNat=R:=by omega
 obtain⟨s1,s2⟩:=aiQ (a:=G) (b:=R) (E:=b.ah) λe he k hk=>by have:=r6 k (mem_pl.2 (.inr (.inr ⟨e,he,by simpa using hk⟩)));omega
 have pi:aG (bY G R) b.aj=b.aj.map λk:Int=>k+(G:Int):=PK λk hk=>by have:=r6 k (mem_pl.2 (.inl hk));omega
 have po:aG (bY G R) b.ay=b.ay.map λk:Int=>k+(G:Int):=PK λk hk=>by have:=r6 k (mem_pl.2 (.inr (.inl hk)));omega
 have ho:(ql a b).iM=(a.aj++b.aj.map λk:Int=>k+(G:Int))++(a.ah.flatMap aO.ay++(b.ah.flatMap aO.ay).map λk:Int=>k+(G:Int)):=by
  simp only[ql,PI,aF.iM,eG,eR,ZL,s1,pi]
 have hd:(ql a b).iZ=(a.ay++b.ay.map λk:Int=>k+(G:Int))++(a.ah.flatMap aO.aj++(b.ah.flatMap aO.aj).map λk:Int=>k+(G:Int)):=by
  simp only[ql,PI,aF.iZ,eG,eR,ZL,s2,po]
 have aiR:∀{p q r s:List Int},((p++r)++(q++s)).Nodup->((p++q)++(r++s)).Nodup:=λ{p q r s} h=>by
  have hp:List.Perm ((p++r)++(q++s)) ((p++q)++(r++s)):=by
   rw[Zz,Zz];refine List.Perm.append_left p ?_;rw[<-Zz,<-Zz];exact List.Perm.append_right s WU
  exact hp.nodup_iff.1 h
 have hdj:∀{l m:List Int},(∀k∈l,k∈a.places)->(∀k∈m,k∈b.places)->∀x∈l,∀y∈m.map (λk:Int=>k+(G:Int)),x≠y:=λ{l m} hl hm x hx y hy e=>by
  obtain⟨z,hz,rfl⟩:=ZM.1 hy;have:=g6 x (hl x hx);have:=r6 z (hm z hz);omega
 have fl:∀{f:aO->List Int} {g:aF},(f=aO.aj\/f=aO.ay)->∀k∈g.ah.flatMap f,k∈g.places:=λ{f g} hf k hk=>by
  obtain⟨e,he,hk⟩:=Z6.1 hk;rcases hf with rfl|rfl
  ·exact mem_pl.2 (.inr (.inr ⟨e,he,.inl hk⟩))
  ·exact mem_pl.2 (.inr (.inr ⟨e,he,.inr hk⟩))
 refine⟨⟨?_,?_⟩,λk hk=>?_,λk hk=>?_⟩
 ·rw[ho];refine aiR ?_;rw[<-ZK];exact Yk.2 ⟨ma.nd.o,TJ mb.nd.o,hdj (λk hk=>aaM hk) (λk hk=>aaM hk)⟩
 ·rw[hd];refine aiR ?_;rw[<-ZK];exact Yk.2 ⟨ma.nd.d,TJ mb.nd.d,hdj (λk hk=>aeQ hk) (λk hk=>aeQ hk)⟩
 ·rw[ho];have eH:k∈a.ay++b.ay.map λk:Int=>k+(G:Int):=by rw[<-po,<-eG,<-eR];exact hk
  rcases Zs.1 eH with hk|hk
  ·rcases PO.1 (ma.co k hk)with h|⟨e,he,h⟩
   ·exact Zs.2 (.inl (Zs.2 (.inl h)))
   ·exact Zs.2 (.inr (Zs.2 (.inl (Z6.2 ⟨e,he,h⟩))))
  ·obtain⟨z,hz,rfl⟩:=ZM.1 hk;rcases PO.1 (mb.co z hz)with h|⟨e,he,h⟩
   ·exact Zs.2 (.inl (Zs.2 (.inr (ZM.2 ⟨z,h,rfl⟩))))
   ·exact Zs.2 (.inr (Zs.2 (.inr (ZM.2 ⟨z,Z6.2 ⟨e,he,h⟩,rfl⟩))))
 ·rw[hd];have eH:k∈a.aj++b.aj.map λk:Int=>k+(G:Int):=by rw[<-pi,<-eG,<-eR];exact hk
  rcases Zs.1 eH with hk|hk
  ·rcases NG.1 (ma.ci k hk)with h|⟨e,he,h⟩
   ·exact Zs.2 (.inl (Zs.2 (.inl h)))
   ·exact Zs.2 (.inr (Zs.2 (.inl (Z6.2 ⟨e,he,h⟩))))
  ·obtain⟨z,hz,rfl⟩:=ZM.1 hk;rcases NG.1 (mb.ci z hz)with h|⟨e,he,h⟩
   ·exact Zs.2 (.inl (Zs.2 (.inr (ZM.2 ⟨z,h,rfl⟩))))
   ·exact Zs.2 (.inr (Zs.2 (.inr (ZM.2 ⟨z,Z6.2 ⟨e,he,h⟩,rfl⟩))))
theorem aqd {a b:aF} (ha:aY a=true) (hb:aY b=true) (hab:a.ay.length=b.aj.length) (ma:Gi a) (mb:Gi b):Gi (pI a b):=by
 obtain⟨⟨G,g0,g1⟩,g2,g3,g4,g5,g6⟩:=eF ha;obtain⟨⟨R,r0,r1⟩,r2,r3,r4,r5,r6⟩:=eF hb;have hW:=aaE ha hb;have eG:a.aB.toNat=G:=by omega
 have eR:b.aB.toNat=R:=by omega
 have wJ:=aeJ ha hb;obtain⟨s1,s2⟩:=aiQ (a:=G) (b:=R) (E:=b.ah) λe he k hk=>by have:=r6 k (mem_pl.2 (.inr (.inr ⟨e,he,by simpa using hk⟩)));omega
 have po:aG (bY G R) b.ay=b.ay.map λk:Int=>k+(G:Int):=PK λk hk=>by have:=r6 k (mem_pl.2 (.inr (.inl hk)));omega
 have ho:(lN a b).iM=a.iM++(b.ah.flatMap aO.ay).map λk:Int=>k+(G:Int):=by
  simp only[lN,aF.iM,eG,eR,ZL,s1,Zz]
 have hd:(lN a b).iZ=(b.ay.map λk:Int=>k+(G:Int))++(a.ah.flatMap aO.aj++(b.ah.flatMap aO.aj).map λk:Int=>k+(G:Int)):=by
  simp only[lN,aF.iZ,eG,eR,ZL,s2,po]
 obtain⟨bo1,bo2,bo3⟩:=Yk.1 mb.nd.o;obtain⟨bd1,bd2,bd3⟩:=Yk.1 mb.nd.d;obtain⟨ad1,ad2,ad3⟩:=Yk.1 ma.nd.d;have fl:∀{f:aO->List Int} {g:aF},(f=aO.aj\/f=aO.ay)->∀k∈g.ah.flatMap f,k∈g.places:=λ{f g} hf k hk=>by
  obtain⟨e,he,hk⟩:=Z6.1 hk;rcases hf with rfl|rfl
  ·exact mem_pl.2 (.inr (.inr ⟨e,he,.inl hk⟩))
  ·exact mem_pl.2 (.inr (.inr ⟨e,he,.inr hk⟩))
 have PU:∀k∈a.places,0<=k/\k<(G:Int):=λk hk=>by have:=g6 k hk;omega
 have Kr:∀k∈b.places,0<=k/\k<(R:Int):=λk hk=>by have:=r6 k hk;omega
 have BN:(lN a b).iM.Nodup:=by
  rw[ho];refine Yk.2 ⟨ma.nd.o,TJ bo2,λx hx y hy e=>?_⟩;obtain⟨z,hz,rfl⟩:=ZM.1 hy;have:=PU x (aaM hx);have:=Kr z (fl (.inr rfl) z hz);omega
 have hdn:(lN a b).iZ.Nodup:=by
  rw[hd];refine Yk.2 ⟨TJ bd1,Yk.2 ⟨ad2,TJ bd2,λx hx y hy e=>?_⟩,λx hx y hy e=>?_⟩
  ·obtain⟨z,hz,rfl⟩:=ZM.1 hy;have:=PU x (fl (.inl rfl) x hx);have:=Kr z (fl (.inl rfl) z hz);omega
  ·obtain⟨z,hz,rfl⟩:=ZM.1 hx;have hz1:=Kr z (mem_pl.2 (.inr (.inl hz)));rcases Zs.1 hy with hy|hy
   ·have:=PU y (fl (.inl rfl) y hy);omega
   ·obtain⟨z',hz',e'⟩:=ZM.1 hy;exact bd3 z hz z' hz' (by omega)
 have hZ:∀p∈((b.aj.map λk:Int=>k+(G:Int)).zip a.ay),∃x∈b.aj,p.1=x+(G:Int)/\p.2∈a.ay:=λp hp=>by
  have h1:=(YS (show(p.1,p.2)∈_ from hp)).1;have h2:=(YS (show(p.1,p.2)∈_ from hp)).2;obtain⟨x,hx,e⟩:=ZM.1 h1;exact⟨x,hx,e.symm,h2⟩
 have Bl:∀p∈qK a b,(p.1<a.aB.toNat+b.aB.toNat/\p.2<a.aB.toNat+b.aB.toNat)/\((((p.1:Int),(p.2:Int))∈((b.aj.map λk:Int=>k+(G:Int)).zip a.ay))\/(((p.2:Int),(p.1:Int))∈((b.aj.map λk:Int=>k+(G:Int)).zip a.ay))):=λp hp=>by
  refine⟨wJ p hp,.inr ?_⟩;unfold qK at hp;obtain⟨c,hc,rfl⟩:=ZM.1 hp;have h1:=PU c.1 (mem_pl.2 (.inr (.inl (YS hc).1)));have h2:=Kr c.2 (mem_pl.2 (.inl (YS hc).2));obtain⟨i,hi,e⟩:=Yl.1 hc;rw[Wf]at e;rw[Xo]at hi;refine Yl.2 ⟨i,by rw[Xo,ZG];omega,?_⟩;rw[Wf,YN];rw[<-e]at h1 h2 ⊢;simp only at h1 h2 ⊢;rw[YG];omega
 have acP:∀p∈((b.aj.map λk:Int=>k+(G:Int)).zip a.ay),∀p'∈((b.aj.map λk:Int=>k+(G:Int)).zip a.ay),p.1=p'.1->p.2=p'.2:=λp hp p' zV e=>by
  obtain⟨x,y⟩:=p;obtain⟨x',y'⟩:=p';simp only at e;subst e;exact aiL (TJ bo1) hp zV
 have acQ:∀p∈((b.aj.map λk:Int=>k+(G:Int)).zip a.ay),∀p'∈((b.aj.map λk:Int=>k+(G:Int)).zip a.ay),p.1≠p'.2:=λp hp p' zV e=>by
  obtain⟨x,hx,e1,_⟩:=hZ p hp;obtain⟨_,_,_,h2⟩:=hZ p' zV;have:=Kr x (mem_pl.2 (.inl hx));have:=PU p'.2 (mem_pl.2 (.inr (.inl h2)));omega
 have hnu:∀p∈((b.aj.map λk:Int=>k+(G:Int)).zip a.ay),∀p'∈((b.aj.map λk:Int=>k+(G:Int)).zip a.ay),p.2=p'.2->p.1=p'.1:=λp hp p' zV e=>by
  obtain⟨x,y⟩:=p;obtain⟨x',y'⟩:=p';simp only at e;subst e;exact aiM ad1 hp zV
 have hgp:∀i,(h1:i<a.ay.length)->(h2:i<b.aj.length)->(kY (lN a b) (a.aB.toNat+b.aB.toNat) (qK a b)).getD a.ay[i].toNat 0=(kY (lN a b) (a.aB.toNat+b.aB.toNat) (qK a b)).getD (b.aj[i]+(G:Int)).toNat 0:=λi h1 h2=>by
  have hm:(a.ay[i].toNat,b.aj[i].toNat+a.aB.toNat)∈qK a b:=by
   unfold qK;exact ZM.2 ⟨(a.ay[i],b.aj[i]),Yl.2 ⟨i,by rw[Xo];omega,by rw[Wf]⟩,rfl⟩
  have h:=ap7 (u:=lN a b) wJ hm;have hb0:=Kr b.aj[i] (mem_pl.2 (.inl (Zp h2)));rw[show(b.aj[i]+(G:Int)).toNat=b.aj[i].toNat+a.aB.toNat by omega];exact h
 unfold pI tV;refine⟨⟨?_,?_⟩,?_,?_⟩
 ·rw[aiJ];refine aiH Bl acP acQ hW.rng (λk hk=>aaM hk) BN (λp hp h1=>?_) (λp hp p' zV h1 h2 e=>hnu p hp p' zV e);obtain⟨x,hx,e1,_⟩:=hZ p hp;rw[ho,e1]at h1;have hx1:=Kr x (mem_pl.2 (.inl hx));rcases Zs.1 h1 with h1|h1
  ·have:=PU _ (aaM h1);omega
  ·obtain⟨z,hz,e2⟩:=ZM.1 h1;exact absurd rfl (bo3 x hx x (by rwa [show z=x by omega]at hz))
 ·rw[aiK];refine aiH Bl acP acQ hW.rng (λk hk=>aeQ hk) hdn (λp hp h1 h2=>?_) (λp hp p' zV h1 h2 e=>hnu p hp p' zV e);obtain⟨x,hx,e1,hy⟩:=hZ p hp;have hy1:=PU p.2 (mem_pl.2 (.inr (.inl hy)));rw[hd]at h2;rcases Zs.1 h2 with h2|h2
  ·obtain⟨z,hz,e2⟩:=ZM.1 h2;have:=Kr z (mem_pl.2 (.inr (.inl hz)));omega
  ·rcases Zs.1 h2 with h2|h2
   ·exact ad3 _ hy _ h2 rfl
   ·obtain⟨z,hz,e2⟩:=ZM.1 h2;have:=Kr z (fl (.inl rfl) z hz);omega
 ·intro k hk;rw[aiJ];have eH:k∈aG (kY (lN a b) (a.aB.toNat+b.aB.toNat) (qK a b)) (b.ay.map λk:Int=>k+(G:Int)):=by
   have:(lN a b).ay=b.ay.map λk:Int=>k+(G:Int):=by simp only[lN,eG,eR,po]
   rw[<-this];exact hk
  obtain⟨z,hz,rfl⟩:=ZM.1 eH;obtain⟨x,hx,rfl⟩:=ZM.1 hz;rcases PO.1 (mb.co x hx)with h|⟨e,he,h⟩
  ·obtain⟨i,hi,rfl⟩:=Yl.1 h;rw[<-hgp i (by omega) hi];refine SQ ?_;rw[ho];exact Zs.2 (.inl (ma.co _ (Zp _)))
  ·refine SQ ?_;rw[ho];exact Zs.2 (.inr (ZM.2 ⟨x,Z6.2 ⟨e,he,h⟩,rfl⟩))
 ·intro k hk;rw[aiK];obtain⟨x,hx,rfl⟩:=ZM.1 (show k∈aG (kY (lN a b) (a.aB.toNat+b.aB.toNat) (qK a b)) a.aj from hk);rcases NG.1 (ma.ci x hx)with h|⟨e,he,h⟩
  ·obtain⟨i,hi,rfl⟩:=Yl.1 h;show(kY (lN a b) (a.aB.toNat+b.aB.toNat) (qK a b)).getD a.ay[i].toNat 0∈_;rw[hgp i hi (by omega)];refine SQ ?_;rw[hd];rcases NG.1 (mb.ci _ (Zp (show i<b.aj.length by omega)))with h|⟨e,he,h⟩
   ·exact Zs.2 (.inl (ZM.2 ⟨_,h,rfl⟩))
   ·exact Zs.2 (.inr (Zs.2 (.inr (ZM.2 ⟨_,Z6.2 ⟨e,he,h⟩,rfl⟩))))
  ·refine SQ ?_;rw[hd];exact Zs.2 (.inr (Zs.2 (.inl (Z6.2 ⟨e,he,h⟩))))
theorem aaN:∀(t:Tr) (x:W2),t.ty (bI [])=some x->∀g,jU t=some g->Gi g
 | .leaf n,x,hx,g,hg=>by
  simp only[jU,ZQ]at hg;subst hg;exact aqb n
 | .seq a b,x,hx,g,hg=>by
  simp only[Tr.ty]at hx;split at hx
  ·rename_i p q h1 h2
   simp only[jU]at hg;split at hg
   ·rename_i ga gb e1 e2
    have ma:=DU a p h1 ga e1;have mb:=DU b q h2 gb e2;split at hg
    ·simp only[ZQ]at hg;subst hg;refine aqd ma.ok mb.ok ?_ (aaN a p h1 ga e1) (aaN b q h2 gb e2);unfold og at hx;rw[ZE rfl]at hx;split at hx
     ·rename_i F8
      have:=ma.b;have:=mb.a;omega
     ·cases hx
    ·cases hg
   ·cases hg
  ·cases hx
 | .par a b,x,hx,g,hg=>by
  simp only[Tr.ty]at hx;split at hx
  ·rename_i p q h1 h2
   simp only[jU]at hg;split at hg
   ·rename_i ga gb e1 e2
    have ma:=DU a p h1 ga e1;have mb:=DU b q h2 gb e2;split at hg
    ·simp only[ZQ]at hg;subst hg;exact aqc ma.ok mb.ok (aaN a p h1 ga e1) (aaN b q h2 gb e2)
    ·cases hg
   ·cases hg
  ·cases hx
theorem aqe {g q:aF} {m:aX} (h:Ce g q m=true):(∀a b,a<m.aB.length->b<m.aB.length->m.aB.getD a 0=m.aB.getD b 0->a=b)/\∀i,i<q.ah.length->wL m.aB (q.ah.getD i bQ) (g.ah.getD (m.ah.getD i 0).toNat bQ)=true:=by
 unfold Ce JU at h;simp only[Zu,ZF,Z7,ZW]at h;obtain⟨h1,h2,⟨-,h3⟩,h4,h5⟩:=h;refine⟨λa b ha hb e=>?_,h5⟩;rw[Zg,Zg,Zi ha,Zi hb]at e;exact(VF h3).1 e
open Go.RowKit
theorem mW.nil (w:World) (B:Nat):mW w B (.slice none 0 0) []:=(mO.nil w B).o
theorem dB.res {w:World} {B b:Nat} {x y z:Value} {g:aF} (h:dB w B x y z g) (hb:b<B) (u0 u1 u2 u3:Value) :
  dB ((((w.setCell ⟨b,0,none⟩ u0).setCell ⟨b,1,none⟩ u1).setCell ⟨b,2,none⟩ u2).setCell ⟨b,3,none⟩ u3) B x y z g :=
 (((h.low (a:=⟨b,0,none⟩) hb _).low (a:=⟨b,1,none⟩) hb _).low (a:=⟨b,2,none⟩) hb _).low (a:=⟨b,3,none⟩) hb _
theorem iU {w w':World} {B b:Nat} (h:Below B w w') (hb:B<=b) (u0 u1 u2 u3:Value) :
  Below B w ((((w'.setCell ⟨b,0,none⟩ u0).setCell ⟨b,1,none⟩ u1).setCell ⟨b,2,none⟩ u2).setCell ⟨b,3,none⟩ u3) :=
 (((h.setCell hb _).setCell hb _).setCell hb _).setCell hb _
theorem aqf (n:Nat) (w:World) (hn:n<=1000):Calls Tryz.prog 165 #[.int .i64 n] w (nZ (DT n) w):=by
 have hA:=aH w (.cells #[.int .i64 0,.slice none 0 0,.slice none 0 0,.slice none 0 0] 33);have kR:=Bk.new w 33 #[.int .i64 0,.slice none 0 0,.slice none 0 0,.slice none 0 0];go_enter Tryz.func165,Tryz.ntmps165;go_wp2_with fail
 generalize(w.alloc (.cells #[.int .i64 0,.slice none 0 0,.slice none 0 0,.slice none 0 0] 33))=u0 at *;have eU:=kR.lt;refine(O1 n u0 (by omega)).mono ?_;rintro e u1⟨v1,rfl,hr1,hb1⟩;obtain⟨a1,c1,rfl⟩:=hr1.slice;rw[oh]at *;go_wp2_with fail
 refine(O1 n u1 (by omega)).mono ?_;rintro e u2⟨v2,rfl,hr2,hb2⟩;obtain⟨a2,c2,rfl⟩:=hr2.slice;rw[oh]at *;have hz1:=hb1.size;have oV:=(kR.keep hb1).keep hb2;obtain⟨iR,fR,zR⟩:=oV.cell;have aZ:=hA.trans ((hb1.trans (hb2.mono hz1)).mono hA.size);have HG:=Za (show dB u2 u0.heap.size (.slice none 0 0) (.slice a1 n c1) (.slice a2 n c2) (DT n)from⟨mW.nil _ _,hr1.keep hb2,hr2.mono hz1⟩);have HB:=Za aZ;clear hr1 hr2 hb1 hb2 aZ kR oV;go_wp2;refine Zt (v:=.agg #[.int .i64 n,.slice none 0 0,.slice a1 n c1,.slice a2 n c2]) (by simp[results,Tryz.results165,go_sem,iR]) rfl ⟨_,_,_,rfl,?_,?_⟩
 ·exact(HG.out.res eU _ _ _ _).mono hA.size
 ·exact iU HB.out (Zj _) _ _ _ _
theorem aqg (k v:Int) (nm:ByteArray) (w:World) (hk:k=1) (h0:0<=v) (h1:v<=12):Calls Tryz.prog 134 #[.agg #[.int .i64 k,.int .i64 v,.string nm]] w (nZ (DT v.toNat) w):=by
 subst hk;obtain⟨n,rfl⟩:∃n:Nat,v=n:=⟨v.toNat,by omega⟩
 have aQ:=aH w (.cells #[.int .i64 1,.int .i64 n,.string nm] 116);have aT:=aH (w.alloc (.cells #[.int .i64 1,.int .i64 n,.string nm] 116)) (.cells #[.int .i64 0,.slice none 0 0,.slice none 0 0,.slice none 0 0] 33);have hA:=aQ.trans (aT.mono aQ.size);have kR:=Bk.new (w.alloc (.cells #[.int .i64 1,.int .i64 n,.string nm] 116)) 33 #[.int .i64 0,.slice none 0 0,.slice none 0 0,.slice none 0 0];simp only[Zn]at kR;have hn:n<=12:=by omega
 rw[Zr];go_enter Tryz.func134,Tryz.ntmps134;go_wp2_with fail
 generalize((w.alloc (.cells #[.int .i64 1,.int .i64 n,.string nm] 116)).alloc (.cells #[.int .i64 0,.slice none 0 0,.slice none 0 0,.slice none 0 0] 33))=u0 at *;have eU:=kR.lt;refine(aqf n u0 (by omega)).mono ?_;intro e u1 hq;obtain⟨x1,y1,x2,y2,x3,y3,rfl,hg,hb⟩:=hq.q;have oV:=kR.keep hb;obtain⟨iR,fR,zR⟩:=oV.cell;have HG:=Za hg;have HB:=Za (hA.trans (hb.mono hA.size));clear hg hb kR oV hq;generalize hGn:DT n=G at *;obtain⟨gw,ge,gi,gq⟩:=G;clear hGn;dsimp only;go_wp2;refine Zt (v:=.agg #[.int .i64 gw,.slice x1 ge.length y1,.slice x2 gi.length y2,.slice x3 gq.length y3]) (by simp[results,Tryz.results134,go_sem,iR]) rfl ⟨_,_,_,rfl,?_,?_⟩
 ·exact(HG.out.res eU _ _ _ _).mono hA.size
 ·exact iU HB.out (by omega) _ _ _ _
theorem acS (w:World) (B:Nat) (x y:Int) (hB:B<=w.heap.size):Rw (w.alloc (.cells #[.int .i64 x,.int .i64 y] 3)) B (.slice (some ⟨w.heap.size,0,none⟩) 2 2) [x,y] :=
 ⟨rfl,.inr ⟨w.heap.size,2,#[.int .i64 x,.int .i64 y],rfl,hB,Bk.new w _ _,Zj _,by unfold maxLen;omega,rfl,rfl⟩⟩
theorem aqh (k v:Int) (nm:ByteArray) (w:World) (hk:k=2):Calls Tryz.prog 134 #[.agg #[.int .i64 k,.int .i64 v,.string nm]] w (nZ ⟨2,[],[0,1],[1,0]⟩ w):=by
 subst hk;have aQ:=aH w (.cells #[.int .i64 2,.int .i64 v,.string nm] 116);have aT:=aH (w.alloc (.cells #[.int .i64 2,.int .i64 v,.string nm] 116)) (.cells #[.int .i64 0,.slice none 0 0,.slice none 0 0,.slice none 0 0] 33);have hA:=aQ.trans (aT.mono aQ.size);have kR:=Bk.new (w.alloc (.cells #[.int .i64 2,.int .i64 v,.string nm] 116)) 33 #[.int .i64 0,.slice none 0 0,.slice none 0 0,.slice none 0 0];simp only[Zn]at kR;have hU:∀u:World,w.heap.size+1<u.heap.size->Rw ((u.alloc (.cells #[.int .i64 0,.int .i64 1] 3)).alloc (.cells #[.int .i64 1,.int .i64 0] 3)) (w.heap.size+1+1) (.slice (some ⟨u.heap.size,0,none⟩) 2 2) [0,1]/\Rw ((u.alloc (.cells #[.int .i64 0,.int .i64 1] 3)).alloc (.cells #[.int .i64 1,.int .i64 0] 3)) (w.heap.size+1+1) (.slice (some ⟨u.heap.size+1,0,none⟩) 2 2) [1,0]:=λu hu=>by
  have h1:=acS u (w.heap.size+1+1) 0 1 (by omega);have h2:=acS (u.alloc (.cells #[.int .i64 0,.int .i64 1] 3)) (w.heap.size+1+1) 1 0 (by simp;omega);rw[Zn]at h2;exact⟨h1.keep (aH _ _),h2⟩
 have HU:=Za hU;clear hU;go_enter Tryz.func134,Tryz.ntmps134;go_wp2;refine Zt (v:=.agg #[.int .i64 2,.slice none 0 0,.slice (some ⟨w.heap.size+1+1,0,none⟩) 2 2,.slice (some ⟨w.heap.size+1+1+1,0,none⟩) 2 2]) (by simp[results,Tryz.results134,go_sem]) rfl ⟨_,_,_,rfl,?_,?_⟩
 ·have hh:=HU.out ((w.alloc (.cells #[.int .i64 2,.int .i64 v,.string nm] 116)).alloc (.cells #[.int .i64 2,.slice none 0 0,.slice (some ⟨w.heap.size+1+1,0,none⟩) 2 2,.slice (some ⟨w.heap.size+1+1+1,0,none⟩) 2 2] 33)) (by simp);simp only[Zn]at hh;exact⟨mW.nil _ _,hh.1.mono (by omega),hh.2.mono (by omega)⟩
 ·exact((((Zl _ _).alloc (Zj _) _).alloc (by simp) _).alloc (by simp;omega) _).alloc (by simp;omega) _
theorem aqi (k v:Int) (nm:ByteArray) (w:World) (h0:3<=k) (h1:k<=14):Calls Tryz.prog 134 #[.agg #[.int .i64 k,.int .i64 v,.string nm]] w (nZ (Bf k v (fJ k).1.toNat (fJ k).2.toNat) w):=by
 have qY:=λu=>ad6 k u h0 h1;obtain⟨a,b,ha,hb,hle⟩:∃a b:Nat,fJ k=((a:Int),(b:Int))/\a+b<=4/\True:=by
  refine⟨(fJ k).1.toNat,(fJ k).2.toNat,?_,?_,trivial⟩
  ·unfold fJ;repeat' split
   all_goals rfl
  ·unfold fJ;repeat' split
   all_goals decide
 rw[ha]at qY;rw[ha];simp only[Zr]at qY ⊢;have HGW:=Za qY;clear qY ha hle;have aQ:=aH w (.cells #[.int .i64 k,.int .i64 v,.string nm] 116);have aT:=aH (w.alloc (.cells #[.int .i64 k,.int .i64 v,.string nm] 116)) (.cells #[.int .i64 0,.slice none 0 0,.slice none 0 0,.slice none 0 0] 33);have hA:=aQ.trans (aT.mono aQ.size);have kN:=(Bk.new w 116 #[.int .i64 k,.int .i64 v,.string nm]).keep aT;have kR:=Bk.new (w.alloc (.cells #[.int .i64 k,.int .i64 v,.string nm] 116)) 33 #[.int .i64 0,.slice none 0 0,.slice none 0 0,.slice none 0 0];simp only[Zn]at kR;clear aQ aT;have uZ:¬k=1:=by omega
 have hk2:¬k=2:=by omega
 go_enter Tryz.func134,Tryz.ntmps134;go_wp2_with fail
 generalize((w.alloc (.cells #[.int .i64 k,.int .i64 v,.string nm] 116)).alloc (.cells #[.int .i64 0,.slice none 0 0,.slice none 0 0,.slice none 0 0] 33))=u0 at *;refine(HGW.out u0).mono ?_;rintro e u1⟨rfl,hb1⟩;go_wp2_with fail
 have dU:=aH u1 (.cells #[.int .i64 a,.int .i64 b] 189);have kW:=Bk.new u1 189 #[.int .i64 a,.int .i64 b];have kN2:=(kN.keep hb1).keep dU;have oV:=(kR.keep hb1).keep dU;have aZ:=hA.trans ((hb1.trans (dU.mono hb1.size)).mono hA.size);have HZ:=Za (Zb kR.lt hb1.size);clear hb1 dU kN kR;generalize(u1.alloc (.cells #[.int .i64 a,.int .i64 b] 189))=u2 at *;generalize u1.heap.size=bW at *;have HZ2:=Za kW.lt;obtain⟨iW,-,zW⟩:=kW.cell;have c0:=iW 0;have c1:=iW 1;simp at c0 c1;clear iW;have up2:∀{w':World},aC dD u2.drew w'->Below u2.heap.size u2 w':=λh=>(Zl u2.heap.size u2).drew.trans (h.toBelow.mono (by simp));refine h_ (C:=aC (dD) _) 4 [0,1,2,3,4,5,6,7,8,9] (by kernel_rfl) (by kernel_rfl) (aC.aJ _ _) (aC.refl _ _) ?_;iterate 2 (apply dh rfl rfl rfl;(focus intro u hc' hf';go_simp<;>rfl);intro K hK;go_simp;apply hK;clear hK K)
 refine fD rfl rfl rfl (aC.aJ _ _) (aC.refl _ _) 143 (λK hK=>?_);apply Zq;refine⟨λw' hw'=>?_,λwa bT bZ=>?_⟩;(focus go_simp;rfl);refine(O1 a _ (by omega)).mono ?_;rintro e w3⟨v3,rfl,hr3,hb3⟩;refine⟨_,rfl,hb3,λhx=>?_⟩;go_simp;apply hK;clear hK K;iterate 4 (apply dh rfl rfl rfl;(focus intro u hc' hf';go_simp<;>rfl);intro K hK;go_simp;apply hK;clear hK K)
 refine fD rfl rfl rfl (aC.aJ _ _) (hx) 163 (λK hK=>?_);apply Zq;refine⟨λw' hw'=>?_,λwb dJ dH=>?_⟩;(focus go_simp;rfl);refine(SI a b _ (by omega) (by omega)).mono ?_;rintro e w4⟨v4,rfl,hr4,hb4⟩;refine⟨_,rfl,hb4,λhx=>?_⟩;go_simp;apply hK;clear hK K;iterate 2 (apply dh rfl rfl rfl;(focus intro u hc' hf';go_simp<;>rfl);intro K hK;go_simp;apply hK;clear hK K)
 refine dR ?_;have TL:=up2 hx;have CJ:=TL.size;have vP:=bZ.size;have IW:=dH.size;simp only[Zo]at vP;obtain⟨a3,q3,rfl⟩:=hr3.slice;obtain⟨a4,q4,rfl⟩:=hr4.slice;rw[oh]at *;rw[rP]at *;have tC:=(((hr3.keep dH).keep hb4).mono (B':=u2.heap.size) vP)
 have vH:=hr4.mono (B':=u2.heap.size) (by have:=hb3.size;omega);replace kW:=kW.keep TL;replace kN2:=kN2.keep TL;replace oV:=oV.keep TL;have dZ:=aZ.trans (TL.mono aZ.size);have HQ:=Za (Zb CJ aZ.size);clear hr3 hr4 hb3 hb4 bT bZ dJ dH hx up2 TL aZ c0 c1 zW CJ vP IW;obtain⟨iW,-,zW⟩:=kW.cell;have c0:=iW 0;have c1:=iW 1;simp at c0 c1;obtain⟨iN,-,zN⟩:=kN2.cell;have d0:=iN 0;have d1:=iN 1;simp at d0 d1;clear iW iN;have hw:IntKind.i64.wrap ((a:Int)+b)=(a:Int)+b:=Z8 _ (by omega);have NH:¬bW=w.heap.size+1:=by have:=HZ.out;omega
 have Gj:¬w.heap.size=w.heap.size+1:=by omega
 go_wp2_with fail
 have up4:∀{w':World},aC (λj=>j=w.heap.size+1) w4.drew w'->aC (λj=>j=w.heap.size+1) w4 w':=λh=>((aC.refl _ _).below (Zl _ _).drew).trans h;refine h_ (C:=aC (λj=>j=w.heap.size+1) _) 4 [0,1,2,3,4,5,6,7,8,9,10,11,13,14,15,16,12,17,18] (by kernel_rfl) (by kernel_rfl) (aC.aJ _ _) (aC.refl _ _) ?_;iterate 13 (apply i_ rfl rfl rfl;(focus intro u hc' hf';(try simp only[Zo]at hc' hf');go_simp<;>rfl);intro K hK;go_simp;apply hK;clear hK K)
 refine fD rfl rfl rfl (aC.aJ _ _) (aC.refl _ _) 160 (λK hK=>?_);apply Zq;refine⟨λw' hw'=>?_,λwa bT bZ=>?_⟩;(focus go_simp;rfl);refine(clone_any _ _ _ ((tC.keep ((Zl _ _).drew.trans (bZ.mono (by simp)))).at) (by rw[oh];omega)).mono ?_;rintro e w5⟨v5,rfl,jP,bH⟩;refine⟨_,rfl,bH,λhx=>?_⟩;go_simp;apply hK;clear hK K;obtain⟨a5,q5,rfl⟩:=jP.slice;have jT:Below w4.heap.size w4 w5:=((Zl w4.heap.size w4).drew.trans (bZ.mono (by simp))).trans (bH.mono (by have:=bZ.size;simpa using this));iterate 1 (apply i_ rfl rfl rfl;(focus intro u hc' hf';(try simp only[Zo]at hc' hf');go_simp<;>rfl);intro K hK;go_simp;apply hK;clear hK K)
 refine fD rfl rfl rfl (aC.aJ _ _) (hx) 160 (λK hK=>?_);apply Zq;refine⟨λw' hw'=>?_,λwb dJ dH=>?_⟩;(focus go_simp;rfl);refine(clone_any _ _ _ ((vH.keep (jT.trans (dH.mono jT.size))).at) (by rw[rP];omega)).mono ?_;rintro e w6⟨v6,rfl,fQ,aV⟩;refine⟨_,rfl,aV,λhx=>?_⟩;go_simp;apply hK;clear hK K;obtain⟨a6,q6,rfl⟩:=fQ.slice;rw[oh]at *;rw[rP]at *;refine ku rfl rfl rfl (aC.aJ _ _) (hx) (λb=>.slice (some ⟨b,0,none⟩) 1 1) (λK hK=>?_);apply Zq;refine⟨λw' hw'=>?_,λbb w7 f_ CY aW hNb d_=>?_⟩
 ·obtain⟨hc',hf'⟩:=hw'.cell;try simp only[Zo]at hc' hf'
  go_simp;rfl
 go_simp;refine hK _ _ _ ?_;clear hK K;iterate 1 (apply i_ rfl rfl rfl;(focus intro u hc' hf';(try simp only[Zo]at hc' hf');go_simp<;>rfl);intro K hK;go_simp;apply hK;clear hK K)
 refine jd rfl rfl rfl (aC.aJ _ _) f_ (λK hK=>?_);intro w8 dY jY;have hs5:=jT.size;have Kt:=dH.size;have II:=aV.size;have wW:=CY.size;have zY:Below w4.heap.size w4 w6:=(jT.trans (dH.mono hs5)).trans (aV.mono (by omega));have aeR:=zY.trans (CY.mono zY.size);have uG:=aeR.trans (jY.mono aeR.size);have PW:=oV.keep uG;have Gf:=(((jP.keep dH).keep aV).keep CY).keep jY;have CV:=(fQ.keep CY).keep jY;have aiS:=tC.keep uG;have aiT:=vH.keep uG;have aiU:w8.heap[bb]?=some (.cells #[.int .i64 k,.int .i64 v,.slice a3 a q3,.slice a4 b q4] 102):=(jY.block bb (made_cell aW).2.2).trans aW;obtain⟨m0,m1,m2⟩:=PW.cell;have AL:=Za (show mO w8 u2.heap.size (.slice (some ⟨bb,0,none⟩) 1 1) [(⟨k,v,dW a,bY a b⟩,.slice a3 a q3,.slice a4 b q4)]from
  ⟨⟨rfl,.inr ⟨bb,1,_,rfl,by have:=d_;have:=HQ.out;simp only[Zo]at hNb;omega,aiU,Zj _,by unfold maxLen;omega,rfl,rfl⟩⟩,λy hy=>by
   obtain rfl:=ZS.1 hy;exact⟨aiS,aiT⟩⟩)
 have aeS:w.heap.size+1<w4.heap.size:=oV.lt;refine⟨(((w8.setCell ⟨w.heap.size+1,0,none⟩ (.int .i64 ((a:Int)+b))).setCell ⟨w.heap.size+1,1,none⟩ (.slice (some ⟨bb,0,none⟩) 1 1)).setCell ⟨w.heap.size+1,2,none⟩ (.slice a5 a q5)).setCell ⟨w.heap.size+1,3,none⟩ (.slice a6 b q6),?_,⟨bF (bF (bF (bF dY (.inr rfl) _) (.inr rfl) _) (.inr rfl) _) (.inr rfl) _,by simp,λj hj _ _=>by
  have gV:¬(j=w.heap.size+1):=by intro hh;simp only[Zo]at hj;omega
  rw[Zm _ _ _ _ (λh=>gV (by simpa using h)),Zm _ _ _ _ (λh=>gV (by simpa using h)),Zm _ _ _ _ (λh=>gV (by simpa using h)),Zm _ _ _ _ (λh=>gV (by simpa using h))]⟩,?_⟩
 ·go_simp
 go_simp;refine hK _ _ _ ?_;clear hK K;refine dR ?_;have HG:=Za (show dB w8 u2.heap.size (.slice (some ⟨bb,0,none⟩) 1 1) (.slice a5 a q5) (.slice a6 b q6) (Bf k v a b)from⟨AL.out.o,Gf.mono (by have:=HQ.out;have:=bZ.size;simp only[Zo]at this;omega),CV.mono (by have:=HQ.out;omega)⟩);have HB:=Za (dZ.trans (uG.mono dZ.size));have mX:=(((PW.set 0 (.int .i64 ((a:Int)+b))).set 1 (.slice (some ⟨bb,0,none⟩) 1 1)).set 2 (.slice a5 a q5)).set 3 (.slice a6 b q6);have eU:w.heap.size+1<u2.heap.size:=by have:=HZ.out;have:=HZ2.out;omega
 clear AL Gf CV aiS aiT aiU aW dY jY f_ CY hx dJ dH bT bZ aeR uG zY jT jP fQ bH aV up4 PW;go_wp2;obtain⟨iR,fR,zR⟩:=mX.cell;refine Zt (v:=.agg #[.int .i64 ((a:Int)+b),.slice (some ⟨bb,0,none⟩) 1 1,.slice a5 a q5,.slice a6 b q6]) (by simp[results,Tryz.results134,go_sem,iR]) rfl ⟨_,_,_,rfl,?_,?_⟩
 ·exact(HG.out.res eU _ _ _ _).mono (by omega)
 ·exact iU HB.out (by omega) _ _ _ _
theorem aqj (n:Nd) (w:World) (h:jB n=true):Calls Tryz.prog 134 #[.agg #[.int .i64 n.kind,.int .i64 n.value,.string n.name]] w (nZ (vM n) w):=by
 unfold jB at h;simp only[Zu,ZF]at h;obtain⟨⟨⟨h0,h1⟩,h2⟩,h3⟩:=h;unfold vM;by_cases hk:n.kind=1
 ·rw[ZE hk];rw[ZE hk]at h3;simp only[Zu,ZF]at h3;exact aqg _ _ _ w hk h3.1 h3.2
 ·rw[ZH hk];by_cases hk2:n.kind=2
  ·rw[ZE hk2];exact aqh _ _ _ w hk2
  ·rw[ZH hk2];exact aqi _ _ _ w (by omega) h2
end Go.Proofs.YtkhpobekconobaaGreat
