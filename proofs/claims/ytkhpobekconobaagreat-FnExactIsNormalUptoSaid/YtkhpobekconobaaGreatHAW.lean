import Derived.Test.YtkhpobekconobaaGreatHAV
set_option linter.all false
set_option maxRecDepth 100000
set_option maxHeartbeats 0
namespace Go.Proofs.YtkhpobekconobaaGreat
open Go.RowKit
theorem arn (g q:aF) (W V:Nat) (hq:KO g q W V) (vg gi go vq qi qo vx vy:Value) (ws es:List Int) (e0:Nat) (w:World) (hG:oM w vg g.ah) (hQ:oM w vq q.ah) (hx:aU w vx ws) (hy:aU w vy es)
  (hp:Cm g q W V ws es) (vU:e0<q.ah.length) :
  Calls Tryz.prog 112 #[.agg #[.int .i64 (W:Int),vg,gi,go],.agg #[.int .i64 (V:Int),vq,qi,qo],.agg #[vx,vy],.int .i64 (e0:Int)] w λe w'=>∃b,e=.returned (.bool b)/\Below w.heap.size w w'/\(b=false->∀f,f<g.ah.length->y8 g q ws es e0 f):=by
 obtain⟨ga,gc,rfl⟩:=hG.slice;obtain⟨qa,qc,rfl⟩:=hQ.slice;obtain⟨xa,xc,ex⟩:=hx.slice;obtain⟨ya,yc,ey⟩:=hy.slice;rw[hp.wl]at ex;rw[hp.el]at ey;subst ex ey;have hb1:=aH w (.cells #[.int .i64 (W:Int),.slice ga g.ah.length gc,gi,go] 33);have hb2:=hb1.trans ((aH (w.alloc (.cells #[.int .i64 (W:Int),.slice ga g.ah.length gc,gi,go] 33)) (.cells #[.int .i64 (V:Int),.slice qa q.ah.length qc,qi,qo] 33)).mono hb1.size);have hb3:=hb2.trans ((aH ((w.alloc (.cells #[.int .i64 (W:Int),.slice ga g.ah.length gc,gi,go] 33)).alloc (.cells #[.int .i64 (V:Int),.slice qa q.ah.length qc,qi,qo] 33)) (.cells #[.slice xa V xc,.slice ya q.ah.length yc] 129)).mono hb2.size);have kG:=((Bk.new w 33 #[.int .i64 (W:Int),.slice ga g.ah.length gc,gi,go]).alloc (.cells #[.int .i64 (V:Int),.slice qa q.ah.length qc,qi,qo] 33)).alloc (.cells #[.slice xa V xc,.slice ya q.ah.length yc] 129);have kQ:=(Bk.new (w.alloc (.cells #[.int .i64 (W:Int),.slice ga g.ah.length gc,gi,go] 33)) 33 #[.int .i64 (V:Int),.slice qa q.ah.length qc,qi,qo]).alloc (.cells #[.slice xa V xc,.slice ya q.ah.length yc] 129);have kM:=Bk.new ((w.alloc (.cells #[.int .i64 (W:Int),.slice ga g.ah.length gc,gi,go] 33)).alloc (.cells #[.int .i64 (V:Int),.slice qa q.ah.length qc,qi,qo] 33)) 129 #[.slice xa V xc,.slice ya q.ah.length yc];simp only[Zn]at kQ kM;have hz3:(((w.alloc (.cells #[.int .i64 (W:Int),.slice ga g.ah.length gc,gi,go] 33)).alloc (.cells #[.int .i64 (V:Int),.slice qa q.ah.length qc,qi,qo] 33)).alloc (.cells #[.slice xa V xc,.slice ya q.ah.length yc] 129)).heap.size=w.heap.size+3:=by simp
 clear hb1 hb2;have HC:=Za (λ(u:World) (hu:Below w.heap.size w u) (f:Nat) (hf:f<g.ah.length)=>ajv g q W V hq _ gi go _ qi qo _ _ ws es e0 f u (hG.keep hu) (hQ.keep hu) (hx.keep hu) (hy.keep hu) hp vU hf);have I_:=hq.nG;clear hG hQ hx hy hp hq;go_enter Tryz.func112,Tryz.ntmps112;go_wp2_with fail
 generalize(((w.alloc (.cells #[.int .i64 (W:Int),.slice ga g.ah.length gc,gi,go] 33)).alloc (.cells #[.int .i64 (V:Int),.slice qa q.ah.length qc,qi,qo] 33)).alloc (.cells #[.slice xa V xc,.slice ya q.ah.length yc] 129))=u0 at *;obtain⟨g0,-,gz⟩:=kG.cell;have g1:=g0 1;simp only[Ze,Zc,Zd]at g1;go_wp2_with fail
 clear g0 g1 gz;go_loopw [15] (λiv wr=>∃k:Nat,k<=g.ah.length/\iv=.int .i64 k/\Below w.heap.size w wr/\Bk wr w.heap.size 33 #[.int .i64 (W:Int),.slice ga g.ah.length gc,gi,go]/\Bk wr (w.heap.size+1) 33 #[.int .i64 (V:Int),.slice qa q.ah.length qc,qi,qo]/\Bk wr (w.heap.size+2) 129 #[.slice xa V xc,.slice ya q.ah.length yc]/\∀f,f<k->y8 g q ws es e0 f) (λiv _=>g.ah.length-(intOf iv).toNat)
 case atStart=>exact⟨0,Zw _,rfl,hb3,kG,kQ,kM,λf hf=>by omega⟩
 case round =>
  clear hb3 kG kQ kM hz3;obtain⟨k,hk,rfl,aI,kG,kQ,kM,hno⟩:=hrel;by_cases hlt:k<g.ah.length
  ·obtain⟨g0,-,gz⟩:=kG.cell;have g1:=g0 1;have g2:=g0 2;have g3:=g0 3;have g0:=g0 0;obtain⟨q0,-,qz⟩:=kQ.cell;have q1:=q0 1;have q2:=q0 2;have q3:=q0 3;have q0:=q0 0;obtain⟨m0,-,mz⟩:=kM.cell;have m1:=m0 1;have m0:=m0 0;simp only[Ze,Zc,Zd]at g0 g1 g2 g3 q0 q1 q2 q3 m0 m1;have lY:=Za hno;clear hno;go_wp2_with fail
   refine(HC.out wr aI k hlt).mono ?_;rintro e w1⟨ok,a,c,b,d,ws',es',rfl,h1,h2,hb1,-,-,Un,hno⟩;have hA:=aH w1 (.cells #[.slice a V c,.slice b q.ah.length d] 129);have aS:=hb1.trans (hA.mono hb1.size);have qg:=kG.keep aS;have Uo:=kQ.keep aS;have kM2:=kM.keep aS;have ajW:=aI.trans (aS.mono aI.size);cases ok with
   | true =>
    clear Un hno h1 h2 kG kQ kM hA aS g0 g1 g2 g3 gz q0 q1 q2 q3 qz m0 m1 mz;go_wp2;go_ret;exact⟨true,rfl,ajW,λh=>by cases h⟩
   | false =>
    have MW:=Za (hno rfl);clear Un hno h1 h2 kG kQ kM hA aS g0 g1 g2 g3 gz q0 q1 q2 q3 qz m0 m1 mz;go_wp2;go_roundw
    case rel=>exact⟨k+1,by omega,by go_num,ajW,qg,Uo,kM2,λf hf=>by
     rcases Yj f k with h|h
     ·exact lY.out f h
     ·obtain rfl:f=k:=by omega
      exact MW.out⟩
    case measure=>simp[intOf];omega
  ·obtain rfl:k=g.ah.length:=by omega
   have lY:=Za hno;clear hno;go_wp2;go_ret;exact⟨false,rfl,aI,λ_=>lY.out⟩
theorem afP {α:Type} (φ:α->Int) (k:Int):∀(l:List α),l.Pairwise (λx y=>φ x<=φ y)->∃r,l=l.filter (λx=>decide (φ x<k))++r
 | [],_=>⟨[],rfl⟩
 | a::l,h=>by
  obtain⟨h1,h2⟩:=Yd.1 h;by_cases hlt:φ a<k
  ·obtain⟨r,hr⟩:=afP φ k l h2;refine⟨r,?_⟩;rw[Xn (by simpa using hlt),Xb,<-hr]
  ·refine⟨a::l,?_⟩;have hn:l.filter (λx=>decide (φ x<k))=[]:=YP.2 λx hx=>by have:=h1 x hx;simp;omega
   rw[Y9 (by simpa using hlt),hn];rfl
theorem filter_all {α:Type} {p:α->Bool} {l:List α} (h:∀x∈l,p x=true):l.filter p=l:=List.filter_eq_self.2 h
def cut (l:List aX):List aX:=l.take 100
theorem ac8 (l:List aX):(cut l).length<=100:=by unfold cut;rw[ZJ];omega
theorem ajX {l:List aX} (h:(cut l).length<100):cut l=l:=by
 unfold cut at h ⊢;rw[ZJ]at h;exact ZX (by omega)
theorem ac9 {l:List aX} (h:l.length<=100):cut l=l:=ZX h
theorem aro {l r:List aX} (h:¬(cut l).length<100):cut l=cut (l++r):=by
 unfold cut at h ⊢;rw[ZJ]at h;rw[Xl (by omega)]
def Jb (g q:aF) (ws es:List Int) (e k:Nat):List aX:=(pG g q ws es).filter λx=>decide (x.ah.getD e 0<(k:Int))
def Ag (g q:aF) (ws es:List Int) (w k:Nat):List aX:=(pG g q ws es).filter λx=>decide (x.aB.getD w 0<(k:Int))
section
variable {g q:aF} {W V:Nat} {ws es:List Int}
theorem arp (hq:lM g q W V) {e:Nat} (he:e<q.ah.length):Jb g q ws es e 0=[] :=
 YP.2 λx hx=>by
  obtain⟨m1,m2,m3,m4,m5⟩:=(wO hq x).1 ((O8 hq).1 hx).1;have h1:=m4.1.rng e (by omega);have h2:x.ah.getD e 0≠-1:=λh=>m4.2 (jX.2 ⟨e,by omega,h⟩);rw[ZF];omega
theorem arq (hq:lM g q W V) {w:Nat} (hw:w<V):Ag g q ws es w 0=[] :=
 YP.2 λx hx=>by
  obtain⟨m1,m2,m3,m4,m5⟩:=(wO hq x).1 ((O8 hq).1 hx).1;have h1:=m3.1.rng w (by omega);have h2:x.aB.getD w 0≠-1:=λh=>m3.2 (jX.2 ⟨w,by omega,h⟩);rw[ZF];omega
theorem ars (hq:lM g q W V) {e:Nat} (he:e<q.ah.length):Jb g q ws es e g.ah.length=pG g q ws es :=
 filter_all λx hx=>by
  obtain⟨m1,m2,m3,m4,m5⟩:=(wO hq x).1 ((O8 hq).1 hx).1;have h1:=m4.1.rng e (by omega);rw[ZF];omega
theorem aru (hq:lM g q W V) {w:Nat} (hw:w<V):Ag g q ws es w W=pG g q ws es :=
 filter_all λx hx=>by
  obtain⟨m1,m2,m3,m4,m5⟩:=(wO hq x).1 ((O8 hq).1 hx).1;have h1:=m3.1.rng w (by omega);rw[ZF];omega
theorem arv (hq:lM g q W V) {e:Nat} (he:e<=es.length) (hf:∀j,j<e->es.getD j 0≠-1) (k:Nat):Jb g q ws es e (k+1)=Jb g q ws es e k++(pG g q ws es).filter λx=>decide (x.ah.getD e 0=(k:Int)):=by
 have:=aef (λx:aX=>x.ah.getD e 0) (k:Int) _ (ahD hq (ws:=ws) he hf);unfold Jb;rw[<-this];refine XK λx _=>?_;rw[show((k+1:Nat):Int)=(k:Int)+1 by omega]
theorem arw (hq:lM g q W V) {w:Nat} (hw:w<=ws.length) (hf:∀j,j<w->ws.getD j 0≠-1) (hl:es.length=q.ah.length) (he:∀j,j<es.length->es.getD j 0≠-1) (k:Nat):Ag g q ws es w (k+1)=Ag g q ws es w k++(pG g q ws es).filter λx=>decide (x.aB.getD w 0=(k:Int)):=by
 have:=aef (λx:aX=>x.aB.getD w 0) (k:Int) _ (ahE hq hw hf hl he);unfold Ag;rw[<-this];refine XK λx _=>?_;rw[show((k+1:Nat):Int)=(k:Int)+1 by omega]
theorem arx (hq:lM g q W V) {e:Nat} (he:e<=es.length) (hf:∀j,j<e->es.getD j 0≠-1) (k:Nat):∃r,pG g q ws es=Jb g q ws es e k++r:=afP (λx:aX=>x.ah.getD e 0) (k:Int) _ (ahD hq he hf)
theorem arz (hq:lM g q W V) {w:Nat} (hw:w<=ws.length) (hf:∀j,j<w->ws.getD j 0≠-1) (hl:es.length=q.ah.length) (he:∀j,j<es.length->es.getD j 0≠-1) (k:Nat):∃r,pG g q ws es=Ag g q ws es w k++r:=afP (λx:aX=>x.aB.getD w 0) (k:Int) _ (ahE hq hw hf hl he)
theorem ajY {out b l:List aX} (h:¬(cut (out++b)).length<100) (hp:∃r,l=b++r):cut (out++b)=cut (out++l):=by
 obtain⟨r,rfl⟩:=hp;rw[<-Zz];exact aro h
theorem ajZ (hq:lM g q W V) (h:g.ah.length<q.ah.length\/W<V):xU g q=[]:=by
 have pig:∀(n:Nat) (l:List Int),vk n l->¬(-1:Int)∈l->l.length<=n:=by
  intro n l hp hn;have hd:=(ahA (l:=l) (n:=n)).2 ⟨hp,hn⟩;unfold JU iL inB at hd;simp only[Zu,ZF,Z7]at hd;have h1:=(adN (λw=>l.count (w:Int)) n (λw _=>adO.1 hd.2 _)).1;rw[adM n l (λx hx=>by have:=hd.1 x hx;omega)]at h1;exact h1
 rw[Xz];intro x hx;obtain⟨m1,m2,m3,m4,m5⟩:=(wO hq x).1 ((M_ hq x).1 hx);have h1:=pig _ _ m3.1 m3.2;have h2:=pig _ _ m4.1 m4.2;omega
theorem arA (hq:lM g q W V):pG g q (List.replicate V (-1)) (List.replicate q.ah.length (-1))=xU g q:=by
 unfold pG;refine filter_all λx hx=>?_;rw[Zu,Cj,Cj];refine⟨λw hw hn=>?_,λw hw hn=>?_⟩
 ·simp at hw;simp[Zg,hw]at hn
 ·simp at hw;simp[Zg,hw]at hn
theorem aj0 (hq:lM g q W V):Cm g q W V (List.replicate V (-1)) (List.replicate q.ah.length (-1)):=by
 have h:∀(n m:Nat),vk n (List.replicate m (-1)):=λn m=>⟨λw hw=>.inl (by simp at hw;simp[Zg,hw]),λa b ha hb hn=>by simp at ha;simp[Zg,ha]at hn⟩
 exact⟨by simp,by simp,h _ _,h _ _,λi hi hn=>by simp[Zg,hi]at hn⟩
end
theorem aj1:(Tryz.prog.info? 77).map (λi=>(i.zero,i.size,i.bytes))=some (some (.agg #[.slice none 0 0,.slice none 0 0]),2,48):=by kernel_rfl
abbrev qy:=aX×Value×Value
def D5 (x:qy):List Value:=[x.2.1,x.2.2]
theorem aj2 (x:qy):(D5 x).length=2:=rfl
structure BA (w:World) (B:Nat) (v:Value) (xs:List qy):Prop where
 row:w.ownsRow B 77 2 v xs.length (xs.flatMap D5)
 rws:∀x∈xs,Rw w B x.2.1 x.1.aB/\Rw w B x.2.2 x.1.ah
def lT (w:World) (B:Nat) (v:Value) (ms:List aX):Prop:=∃xs:List qy,xs.map Prod.fst=ms/\BA w B v xs
theorem BA.keep {w w':World} {B:Nat} {v:Value} {xs:List qy} (hb:Below w.heap.size w w') (h:BA w B v xs):BA w' B v xs:=⟨jL hb h.row,λx hx=>⟨(h.rws x hx).1.keep hb,(h.rws x hx).2.keep hb⟩⟩
theorem lT.keep {w w':World} {B:Nat} {v:Value} {ms:List aX} (hb:Below w.heap.size w w') (h:lT w B v ms):lT w' B v ms:=by
 obtain⟨xs,h1,h2⟩:=h;exact⟨xs,h1,h2.keep hb⟩
theorem lT.mono {w:World} {B B':Nat} {v:Value} {ms:List aX} (hB:B'<=B) (h:lT w B v ms):lT w B' v ms:=by
 obtain⟨xs,h1,h2,h3⟩:=h;exact⟨xs,h1,FD hB h2,λx hx=>⟨(h3 x hx).1.mono hB,(h3 x hx).2.mono hB⟩⟩
theorem lT.slice {w:World} {B:Nat} {v:Value} {ms:List aX} (h:lT w B v ms):∃a c,v=.slice a ms.length c:=by
 obtain⟨xs,rfl,h2,h3⟩:=h;rw[ZG];rcases h2.2 with⟨hv,he⟩|⟨g,cap,cur,hv,_⟩
 ·exact⟨none,0,by rw[hv,he]⟩
 ·exact⟨_,_,hv⟩
theorem lT.lt {w:World} {B:Nat} {v:Value} {ms:List aX} (h:lT w B v ms):∀j,v.ownBlock=some j->B<=j/\j<w.heap.size:=by
 obtain⟨xs,_,h2,_⟩:=h;exact Zh h2
theorem lT.nil (w:World) (B:Nat):lT w B (.slice none 0 0) []:=⟨[],rfl,Ye _ _ _ _,by simp⟩
theorem lT.ne {w:World} {B b:Nat} {v:Value} {ms:List aX} {t:TypeId} {cs:Array Value} (h:lT w B v ms) (hb:Bk w b t cs) (ht:77≠t):v.ownBlock≠some b:=by
 obtain⟨xs,_,h2,_⟩:=h;exact cO h2 hb ht
theorem lT.aj3 {w w':World} {B B2:Nat} {v u:Value} {ms:List aX} {zs:List Int} (h:lT w B v ms) (hE:aC (λj=>v.ownBlock=some j) w w') (hr:Rw w B2 u zs):Rw w' B2 u zs:=by
 obtain⟨xs,_,h2,_⟩:=h;exact xZ hE hr (λj hj hT=>wC hr h2 (by decide) j hj hT)
theorem lT.grown {w w':World} {B B2:Nat} {v u:Value} {ms:List aX} {zs:List Int} (h:lT w B v ms) (hg:w.grownBy w' v.ownBlock) (hr:Rw w B2 u zs):Rw w' B2 u zs:=by
 obtain⟨xs,_,h2,_⟩:=h;exact hr.grown hg λk hk e=>wC hr h2 (by decide) k hk e
theorem aj6 {w:World} {B:Nat} {y:qy} (h1:Rw w B y.2.1 y.1.aB) (h2:Rw w B y.2.2 y.1.ah):∀u∈D5 y,u.oneCell'=true:=by
 intro u hu;simp only[D5,ZU,YM,XM]at hu;rcases hu with rfl|rfl
 ·obtain⟨a,c,e⟩:=h1.slice;rw[e];rfl
 ·obtain⟨a,c,e⟩:=h2.slice;rw[e];rfl
theorem arB {ops:Array Oper} {Q:Exit->Act->World->Prop} {T:Nat->Prop} {w0:World} {i:Nat} {l:List Nat} {bs:Nat->Prop} {a:Act} {w:World} {o:Oper} (ho:ops[i]?=some o) (hk:jW o=.act) (hg:o.guard=none) (hC:aC T w0 w) (s x:Operand)
  (hop:o.op=Op.call { callee:=Callee.builtin Builtin.append,args:=#[s,x],argTypes:=#[97,97] })
  (B:Nat) (v:Value) (ms:List aX) (b:Nat) (m:aX) (vw ve:Value) (hs:a.eval s=v) (hx:a.eval x=.slice (some ⟨b,0,none⟩) 1 1)
  (AP:∀k,v.ownBlock=some k->(k<w0.heap.size/\T k)\/(w0.heap.size<=k/\bs k)) (hbase:B<=w.heap.size) (hl:ms.length<=100000)
  (hrow:lT w B v ms) (aW:w.heap[b]?=some (.cells #[vw,ve] 77)) (h1:Rw w B vw m.aB) (h2:Rw w B ve m.ah)
  (h:∀K:(Nat->Prop)->Act->World->Prop,(∀bs a w,WX Tryz.prog ops (aC T w0) w0.heap.size Q l bs a w->K bs a w)->∀w1 w2 v',aC T w0 w1->Below w.heap.size w w1 ->
   lT w2 B v' (ms++[m])->w1.grownBy w2 v.ownBlock->aC T w0 w2->(v'.ownBlock=v.ownBlock\/v'.ownBlock=some w1.heap.size)->K (more bs w1 w2) (a.put o.dst v') w2) :
  WX Tryz.prog ops (aC T w0) w0.heap.size Q (i::l) bs a w:=by
 obtain⟨i0,hi,hz0,hz1,hz2⟩:=Yg aj1;obtain⟨xs,rfl,hX⟩:=hrow;rw[ZG]at hl;refine abZ ho hk hg hC s x 97 hop B 77 i0 _ 2 48 Tryz.underlying97 hi hz0 hz1 hz2 rfl (by decide) v xs.length (xs.flatMap D5) hs AP (.slice (some ⟨b,0,none⟩) 1 1) 1 (D5 (m,vw,ve)) hx (aj6 (y:=(m,vw,ve)) h1 h2) (by unfold maxLen;omega) (by omega) hbase ?_ ?_
 ·intro w1 dQ hb1;refine⟨jL hb1 hX.row,rfl,.inr ⟨_,_,rfl,λj u hj=>?_⟩⟩;obtain⟨m0,_,_⟩:=made_cell ((hb1.block b (made_cell aW).2.2).trans aW);rw[addr_add,Yp,m0 j];simpa[D5]using hj
 ·intro K hK w1 w2 v' dQ hb1 r1 r2 r3 r4;have hM:lT w1 B v (xs.map Prod.fst):=⟨xs,rfl,hX.keep hb1⟩
  refine h K hK w1 w2 v' dQ hb1 ⟨xs++[(m,vw,ve)],by simp,⟨?_,λz hz=>?_⟩⟩ r2 r3 r4
  ·rw[Zk,ZL];simpa using r1
  ·rcases Zs.1 hz with hz|hz
   ·exact⟨hM.grown r2 (hX.rws z hz |>.1.keep hb1),hM.grown r2 (hX.rws z hz |>.2.keep hb1)⟩
   ·obtain rfl:=ZS.1 hz;exact⟨hM.grown r2 (h1.keep hb1),hM.grown r2 (h2.keep hb1)⟩
theorem yF {T T':Nat->Prop} {w w1 w2:World} (h:aC T w w1) (h':aC T' w1 w2) (ht:∀j,T' j->T j\/w.heap.size<=j):aC T w w2 :=
 ⟨h'.os.trans h.os,h'.tape.trans h.tape,h'.output.trans h.output,ZI h.size h'.size,λk hk hn=>(h'.block k (Yc hk h.size) (λe=>by rcases ht k e with h1|h1;exact hn h1;omega)).trans (h.block k hk hn)⟩
structure Ah (g q:aF) (V:Nat) (u0 w wr:World) (B:Nat) (lF lH:Array Value) (xa:Option Addr) (xc:Nat) (ya:Option Addr) (yc:Nat) (vo v:Value) (ws es:List Int) (ms:List aX):Prop where
 kg:Bk wr w.heap.size 33 lF
 kq:Bk wr (w.heap.size+1) 33 lH
 km:Bk wr (w.heap.size+2) 129 #[.slice xa V xc,.slice ya q.ah.length yc]
 rx:Rw wr 0 (.slice xa V xc) ws
 ry:Rw wr 0 (.slice ya q.ah.length yc) es
 ms:lT wr B v ms
 ex:aC (λj=>vo.ownBlock=some j) w wr
 ow:v.ownBlock=vo.ownBlock\/∀j,v.ownBlock=some j->w.heap.size<=j
 bu:Below u0.heap.size u0 wr
 hB:B<=w.heap.size
 hu:u0.heap.size<=B
theorem Ah.keep {g q:aF} {V:Nat} {u0 w wr w':World} {B:Nat} {lF lH:Array Value} {xa ya:Option Addr} {xc yc:Nat} {vo v:Value} {ws es:List Int} {ms:List aX} (h:Ah g q V u0 w wr B lF lH xa xc ya yc vo v ws es ms) (hb:Below wr.heap.size wr w'):Ah g q V u0 w w' B lF lH xa xc ya yc vo v ws es ms :=
 ⟨h.kg.keep hb,h.kq.keep hb,h.km.keep hb,h.rx.keep hb,h.ry.keep hb,h.ms.keep hb,h.ex.below hb,h.ow,h.bu.trans (hb.mono h.bu.size),h.hB,h.hu⟩
def SrP (g q:aF) (ws es:List Int) (B:Nat) (vo:Value) (out:List aX) (w:World) (e:Ending) (w':World):Prop :=
 ∃v,e=.returned v/\lT w' B v (cut (out++pG g q ws es))/\aC (λj=>vo.ownBlock=some j) w w'/\(v.ownBlock=vo.ownBlock\/∀j,v.ownBlock=some j->w.heap.size<=j)
theorem Ah.call {g q:aF} {V:Nat} {u0 w wr w':World} {B:Nat} {lF lH:Array Value} {xa ya:Option Addr} {xc yc:Nat} {vo v v':Value} {ws es:List Int} {ms ms':List aX} (h:Ah g q V u0 w wr B lF lH xa xc ya yc vo v ws es ms)
  (hm:lT w' B v' ms') (hx:aC (λj=>v.ownBlock=some j) wr w') (ho:v'.ownBlock=v.ownBlock\/∀j,v'.ownBlock=some j->wr.heap.size<=j):Ah g q V u0 w w' B lF lH xa xc ya yc vo v' ws es ms':=by
 have hs:=h.ex.size;refine⟨h.kg.exc hx (h.ms.ne h.kg (by decide)),h.kq.exc hx (h.ms.ne h.kq (by decide)),h.km.exc hx (h.ms.ne h.km (by decide)),h.ms.aj3 hx h.rx,h.ms.aj3 hx h.ry,hm,yF h.ex hx (λj hj=>?_),?_,h.bu.trans (aas hx (ZI h.hu (ZI h.hB hs)) (λk hk=>ZI h.hu (h.ms.lt k hk).1)),h.hB,h.hu⟩
 ·rcases h.ow with e|e
  ·exact .inl (e▸hj)
  ·exact .inr (e j hj)
 ·rcases ho with e|e
  ·rw[e];exact h.ow
  ·exact .inr λj hj=>ZI hs (e j hj)
theorem Ah.done {g q:aF} {V:Nat} {u0 w wr:World} {B:Nat} {lF lH:Array Value} {xa ya:Option Addr} {xc yc:Nat} {vo v:Value} {ws es:List Int} {ms out:List aX} (h:Ah g q V u0 w wr B lF lH xa xc ya yc vo v ws es ms) (hm:ms=cut (out++pG g q ws es)):SrP g q ws es B vo out w (.returned v) wr:=⟨v,rfl,hm▸h.ms,h.ex,h.ow⟩
def afQ (g q:aF) (W V N:Nat):Prop :=
 ∀(vg gi go vq qi qo vx vy vo:Value) (ws es:List Int) (out:List aX) (B:Nat) (u0 w:World),oM u0 vg g.ah->oM u0 vq q.ah->Below u0.heap.size u0 w->u0.heap.size<=B->B<=w.heap.size->Rw w 0 vx ws->Rw w 0 vy es->Cm g q W V ws es ->
  es.count (-1)+ws.count (-1)=N->out.length<100->lT w B vo out ->
  Calls Tryz.prog 77 #[.agg #[.int .i64 (W:Int),vg,gi,go],.agg #[.int .i64 (V:Int),vq,qi,qo],.agg #[vx,vy],vo] w (SrP g q ws es B vo out w)
theorem afR:∀{a b:List Int},a.length=b.length->iq a b->(∀k,k<b.length->b.getD k 0≠-1->True)->b.count (-1)<=a.count (-1)
 | [],[],_,_,_=>Zj _
 | [],_::_,h,_,_=>by simp at h
 | _::_,[],h,_,_=>by simp at h
 | x::a,y::b,h,he,_=>by
  have ih:=afR (a:=a) (b:=b) (by simpa using h) (λw hw hn=>by have:=he (w+1) (by simpa using hw) (by simpa using hn);simpa using this) (λ_ _ _=>trivial);rw[Yy,Yy];have h0:=he 0 (by simp);simp only[Vm]at h0;by_cases hx:x=-1
  ·subst hx;simp;split<;>omega
  ·have:=h0 hx;subst this;have e:(y==-1)=false:=by rw[Yu];exact hx
   rw[e];simpa using ih
theorem afS:∀{a b:List Int} {k:Nat},a.length=b.length->iq a b->k<a.length->a.getD k 0=-1->b.getD k 0≠-1->b.count (-1)<a.count (-1)
 | [],_,_,_,_,h,_,_=>by simp at h
 | _::_,[],_,h,_,_,_,_=>by simp at h
 | x::a,y::b,k,h,he,hk,h1,h2=>by
  have ha:a.length=b.length:=by simpa using h
  have hE:iq a b:=λw hw hn=>by have:=he (w+1) (by simpa using hw) (by simpa using hn);simpa using this
  have h0:=he 0 (by simp);simp only[Vm]at h0;rw[Yy,Yy];cases k with
  | zero =>
   simp only[Vm]at h1 h2;have ih:=afR ha hE (λ_ _ _=>trivial);subst h1;have e:(y==-1)=false:=by rw[Yu];exact h2
   rw[e];simp;omega
  | succ k =>
   have ih:=afS (k:=k) ha hE (by simpa using hk) (by simpa using h1) (by simpa using h2);by_cases hx:x=-1
   ·subst hx;simp;split<;>omega
   ·have:=h0 hx;subst this;have e:(y==-1)=false:=by rw[Yu];exact hx
    rw[e];simpa using ih
end Go.Proofs.YtkhpobekconobaaGreat
