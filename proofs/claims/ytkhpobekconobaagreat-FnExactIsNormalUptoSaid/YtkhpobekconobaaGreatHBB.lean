import Derived.Test.YtkhpobekconobaaGreatHBA
set_option linter.all false
set_option maxRecDepth 100000
set_option maxHeartbeats 0
namespace Go.Proofs.YtkhpobekconobaaGreat
open Go.RowKit
def Le (w:World) (v:Value):World:=(w.alloc (.cells #[v] 64)).alloc (.cells #[.slice none 0 0,.slice none 0 0,.slice none 0 0] 163)
def G7 (ns:List Nd) (X:List (Nat×W2)):Prop:=∀i x,X[i]?=some x->∃n:Nd,ns[i]?=some n/\((¬(n.kind=15\/n.kind=16)/\x.1=i)\/((n.kind=15\/n.kind=16)/\∃f g tb ta,X[i-1]?=some (f,tb)/\1<=i/\X[f-1]?=some (g,ta)/\x.1=g))
theorem akp {ns:List Nd} {X:List (Nat×W2)} (h:G7 ns X) (y:Nat×W2) (hy:∃n:Nd,ns[X.length]?=some n/\((¬(n.kind=15\/n.kind=16)/\y.1=X.length)\/((n.kind=15\/n.kind=16)/\∃f g tb ta,X[X.length-1]?=some (f,tb)/\1<=X.length/\X[f-1]?=some (g,ta)/\y.1=g))):G7 ns (X++[y]):=by
 have up:∀{j:Nat} {z:Nat×W2},X[j]?=some z->(X++[y])[j]?=some z:=λ{j z} hz=>by
  have hj:j<X.length:=(Yb.1 hz).1;rw[Yz hj];exact hz
 intro i x hx;rcases Yj i X.length with hi|hi
 ·rw[Yz hi]at hx;obtain⟨n,h1,h2⟩:=h i x hx;refine⟨n,h1,h2.imp id ?_⟩;rintro⟨h3,f,g,tb,ta,h4,h5,h6,h7⟩;exact⟨h3,f,g,tb,ta,up h4,h5,up h6,h7⟩
 ·have hi2:i=X.length:=by
   have:=(Yb.1 hx).1;simp at this;omega
  subst hi2;rw[Xd (Zj _)]at hx;simp at hx;subst hx;obtain⟨n,h1,h2⟩:=hy;refine⟨n,h1,h2.imp id ?_⟩;rintro⟨h3,f,g,tb,ta,h4,h5,h6,h7⟩;exact⟨h3,f,g,tb,ta,up h4,h5,up h6,h7⟩
theorem akq {ns:List Nd} {X:List (Nat×W2)} (h:G7 ns X) (hl:X.length<ns.length) (hk:¬(ns[X.length].kind=15\/ns[X.length].kind=16)) (t:W2):G7 ns (X++[(X.length,t)]) :=
 akp h _ ⟨_,Zi hl,.inl ⟨hk,rfl⟩⟩
theorem asa {ns:List Nd} {X:List (Nat×W2)} {f g:Nat} {tb ta:W2} (h:G7 ns X) (hl:X.length<ns.length) (hk:ns[X.length].kind=15\/ns[X.length].kind=16) (h1:X[X.length-1]?=some (f,tb)) (h2:X[f-1]?=some (g,ta)) (t:W2):G7 ns (X++[(g,t)]) :=
 akp h _ ⟨_,Zi hl,.inr ⟨hk,f,g,tb,ta,h1,by have:=(Yb.1 h1).1;omega,h2,rfl⟩⟩
structure Uw (L:List Df) (ns:List Nd) (w wr:World) (v v0 v1 v2:Value) (X:List (Nat×W2)) (st:List W2):Prop where
 bel:Below (w.heap.size+1+1) (Le w v) wr
 rows:uq wr (w.heap.size+1+1+1) (w.heap.size+1+1) v0 v1 v2 (X.map λp=>(p.1:Int)) (X.map λp=>p.2.1) (X.map λp=>p.2.2)
 ch:Chain X st
 go:Hid (eX (bI L) ns []=eX (bI L) (ns.drop X.length) st)
 sm:∀x∈st,Sm x
 fr:G7 ns X
theorem Uw.facts {L:List Df} {ns:List Nd} {w wr:World} {v v0 v1 v2:Value} {X:List (Nat×W2)} {st:List W2} (h:Uw L ns w wr v v0 v1 v2 X st) :
  Below w.heap.size w wr/\w.heap.size+1+1<wr.heap.size/\wr.cell? ⟨w.heap.size,0,none⟩=some v/\(∀j,wr.frozen? ⟨w.heap.size+1,j,none⟩=false) /\
   wr.cell? ⟨w.heap.size+1,0,none⟩=some (.slice none 0 0)/\wr.cell? ⟨w.heap.size+1,1,none⟩=some (.slice none 0 0)/\wr.cell? ⟨w.heap.size+1,2,none⟩=some (.slice none 0 0):=by
 have hb:=h.bel;have h0:(Le w v).heap.size=w.heap.size+1+1:=by simp[Le]
 have bz:=h.rows.bz;refine⟨(((Zl _ _).alloc (Zj _) _).alloc (by simp) _).trans (hb.mono (by omega)),by omega,?_,?_,?_,?_,?_⟩
 ·rw[hb.cell (p:=⟨w.heap.size,0,none⟩) (by simp;omega)];simp[Le,go_sem]
 ·intro j;rw[hb.frozen (p:=⟨w.heap.size+1,j,none⟩) (by simp)];simp[Le,go_sem]
 ·rw[hb.cell (p:=⟨w.heap.size+1,0,none⟩) (by simp)];simp[Le,go_sem]
 ·rw[hb.cell (p:=⟨w.heap.size+1,1,none⟩) (by simp)];simp[Le,go_sem]
 ·rw[hb.cell (p:=⟨w.heap.size+1,2,none⟩) (by simp)];simp[Le,go_sem]
def asb (L:List Df) (ns:List Nd) (w:World) (e:Ending) (w':World):Prop :=
 ∃(a0:Option Addr) (n0 c0:Nat) (a1:Option Addr) (n1 c1:Nat) (a2:Option Addr) (n2 c2:Nat),e=.returned (.tuple #[.agg #[.slice a0 n0 c0,.slice a1 n1 c1,.slice a2 n2 c2],.bool (bP (bI L) ns).isSome])/\Below w.heap.size w w' /\
  ∀t,bP (bI L) ns=some t->∃X:List (Nat×W2),X.length=ns.length/\X[ns.length-1]?=some (0,t) /\
   Rw w' w.heap.size (.slice a0 n0 c0) (X.map λp=>(p.1:Int))/\Rw w' w.heap.size (.slice a1 n1 c1) (X.map λp=>p.2.1)/\Rw w' w.heap.size (.slice a2 n2 c2) (X.map λp=>p.2.2)/\G7 ns X
def asc (L:List Df) (ns:List Nd) (w:World) (e:Ending) (w':World):Prop :=
 ∃(a0:Option Addr) (n0 c0:Nat) (a1:Option Addr) (n1 c1:Nat) (a2:Option Addr) (n2 c2:Nat),e=.returned (.tuple #[.agg #[.slice a0 n0 c0,.slice a1 n1 c1,.slice a2 n2 c2],.bool (bP (bI L) ns).isSome])/\Below w.heap.size w w' /\
  ∀t,bP (bI L) ns=some t->∃X:List (Nat×W2),X.length=ns.length/\X[ns.length-1]?=some (0,t) /\
   Rw w' w.heap.size (.slice a0 n0 c0) (X.map λp=>(p.1:Int))/\Rw w' w.heap.size (.slice a1 n1 c1) (X.map λp=>p.2.1)/\Rw w' w.heap.size (.slice a2 n2 c2) (X.map λp=>p.2.2)
theorem Uw.push {L:List Df} {ns:List Nd} {w wr W:World} {v v0 v1 v2 u0 u1 u2:Value} {X:List (Nat×W2)} {st st':List W2} (h:Uw L ns w wr v v0 v1 v2 X st) {f:Nat} {t:W2}
  (hb:Below (w.heap.size+1+1) wr W) (hr:uq W (w.heap.size+1+1+1) (w.heap.size+1+1) u0 u1 u2 ((X.map λp=>(p.1:Int))++[(f:Int)]) ((X.map λp=>p.2.1)++[t.1]) ((X.map λp=>p.2.2)++[t.2]))
  (hc:Chain (X++[(f,t)]) (t::st')) (hgo:Hid (eX (bI L) ns []=eX (bI L) (ns.drop (X.length+1)) (t::st'))) (hs:∀x∈st',Sm x) (ht:Sm t) (iP:G7 ns (X++[(f,t)])) :
  Uw L ns w W v u0 u1 u2 (X++[(f,t)]) (t::st'):=by
 refine⟨h.bel.trans hb,?_,hc,?_,?_,iP⟩
 ·simpa using hr
 ·simpa using hgo
 ·intro x hx;rcases ZU.1 hx with rfl|hx;exact ht;exact hs x hx
theorem Jf {w0 w W:World} {B0 B xb j:Nat} {v u:Value} {xs:List Int} {o:Obj} (h:Below B0 w0 w) (hx:B0<=xb) (hB:B0<=B) (hsz:B0<=w.heap.size) (hr:Rw w B v xs) (hg:(w.alloc o).grownBy W v.ownBlock) :
  Below B0 w0 (W.setCell ⟨xb,j,none⟩ u) :=
 (((h.alloc hsz o).grown hg (by simp;omega) (λk hk=>by have:=(Zh hr k hk).1;omega))).setCell hx _
theorem uq.Jg {w w':World} {B xb:Nat} {v0 v1 v2:Value} {gJ xs1 xs2:List Int} (h:uq w B xb v0 v1 v2 gJ xs1 xs2) {o:Obj} {row:Option Nat} (hg:(w.alloc o).grownBy w' row) (hr:row≠some xb) :
  w'.cell? ⟨xb,0,none⟩=some v0/\w'.cell? ⟨xb,1,none⟩=some v1/\w'.cell? ⟨xb,2,none⟩=some v2/\(∀j,w'.frozen? ⟨xb,j,none⟩=false)/\w.heap.size+1<=w'.heap.size:=by
 have h':=h.keep (aH w o);have c:=λo=>RS hg (o:=o) h'.bz hr;exact⟨(c 0).1.trans h'.x0,(c 1).1.trans h'.x1,(c 2).1.trans h'.x2,λj=>(c j).2.trans (h'.fx j),by have:=hg.size;simpa using this⟩
theorem Rw.shape {w:World} {B:Nat} {v:Value} {xs:List Int} (h:Rw w B v xs) (n:Nat) (hn:xs.length=n):∃ao cp,v=.slice ao n cp:=by
 subst hn;exact acf h
theorem ase (k:Int):Sm (fJ k):=by
 unfold fJ;repeat' split
 all_goals (unfold Sm;decide)
theorem asf {n:Nd} (h:jB n=true):Sm (wF n):=by
 unfold wF;split
 ·rename_i h1
  simp only[jB,Zu,ZF]at h;have h2:=h.2;rw[ZE h1]at h2;simp only[Zu,ZF]at h2;exact⟨h2.1,h2.2,h2.1,h2.2⟩
 ·exact ase _
theorem Rw.some {w:World} {B n c:Nat} {a:Option Addr} {xs:List Int} (h:Rw w B (.slice a n c) xs) (hn:0<xs.length):∃g,a=some ⟨g,0,none⟩:=by
 rcases h.2 with⟨h',h0⟩|⟨g,cap,cur,h',_⟩
 ·omega
 ·simp only[Zx]at h';exact⟨g,h'.1⟩
theorem afV {w w1 w2:World} {row:Option Nat} (h:w.grownBy w1 row) (hb:Below w1.heap.size w1 w2):w.grownBy w2 row :=
 ⟨hb.os.trans h.os,hb.tape.trans h.tape,hb.output.trans h.output,ZI h.size hb.size,λk hk hr=>(hb.block k (Yc hk h.size)).trans (h.block k hk hr)⟩
theorem akr {w0 w1 w2 w3:World} {B xb:Nat} {v0 v1 v2 v':Value} {gJ xs1 xs2:List Int} {f:Int} (h:uq w0 B xb v0 v1 v2 gJ xs1 xs2) (hb1:Below w0.heap.size w0 w1) (hg:w1.grownBy w2 v0.ownBlock) (hr:Rw w2 B v' (gJ++[f]))
  (ho:v'.ownBlock=v0.ownBlock\/v'.ownBlock=some w1.heap.size) (hb3:Below w2.heap.size w2 w3):uq (w3.setCell ⟨xb,0,none⟩ v') B xb v' v1 v2 (gJ++[f]) xs1 xs2 :=
 (h.keep hb1).app0 (afV hg hb3) (hr.keep hb3) ho
theorem aks {w0 w1 w2 w3 wr:World} {B0 B xb j:Nat} {v u:Value} {xs:List Int} (h:Below B0 wr w0) (hB0:B0<=w0.heap.size) (hx:B0<=xb) (hB:B0<=B) (hb1:Below w0.heap.size w0 w1) (hr:Rw w0 B v xs) (hg:w1.grownBy w2 v.ownBlock) (hb3:Below w2.heap.size w2 w3) :
  Below B0 wr (w3.setCell ⟨xb,j,none⟩ u):=by
 have h1:=hb1.size;have h2:=hg.size;exact((((h.trans (hb1.mono hB0)).grown hg (by omega) (λk hk=>by have:=(Zh hr k hk).1;omega))).trans (hb3.mono (by omega))).setCell hx _
theorem G9 {α β:Type} {X:List α} {i:Nat} {x:α} (h:X[i]?=some x) (f:α->β):∃hi:i<(X.map f).length,(X.map f)[i]=f x:=by
 obtain⟨hi,he⟩:=Yb.1 h;exact⟨by simpa using hi,by simp[he]⟩
theorem akt (v:Value) (L:List Df) (v':Value) (ns:List Nd) (w:World) (hL:OV w v L) (EX:L.length<=1048576) (hLs:∀d∈L,Sm (d.inn,d.out)) (hv:dG w v' ns) (aP:wQ ns) :
  Calls Tryz.prog 144 #[v,.agg #[v']] w (asb L ns w):=by
 obtain⟨hs,hn⟩:=aP;obtain⟨a,cap,rfl,hc,hat⟩:=hv;by_cases hl:1<=ns.length/\ns.length<=400
 ·have g1:inB ns.length 1 400=true:=by simp[inB];omega
  go_enter Tryz.func144,Tryz.ntmps144;go_wp2_with (go_at_call 46;refine(sD _ _ _ _).mono ?_;rintro e w1⟨rfl,rfl⟩)
  obtain⟨i0,hi,hz0,hz1,hz2⟩:=Yg yV;go_loopw [25] (λi wr=>∃(X:List (Nat×W2)) (st:List W2) (v0 v1 v2:Value),X.length<=ns.length/\i=.int .i64 X.length/\Uw L ns w wr (.slice a ns.length cap) v0 v1 v2 X st) (λi _=>ns.length-(intOf i).toNat)
  case atStart =>
   have hr:∀(f:Nat×W2->Int) w' B,Rw w' B (.slice none 0 0) (([]:List (Nat×W2)).map f):=λf w' B=>⟨by simp,.inl ⟨rfl,rfl⟩⟩
   refine⟨[],[],.slice none 0 0,.slice none 0 0,.slice none 0 0,by simp,rfl,?_⟩;constructor
   case rows =>
    have ha:Apart (.slice none 0 0) (.slice none 0 0):=λk hk=>by simp[Value.ownBlock]at hk
    exact⟨by omega,by simp,by go_simp,by go_simp,by go_simp,λj=>by go_simp,hr _ _ _,hr _ _ _,hr _ _ _,ha,ha,ha⟩
   case ch=>rfl
   case go=>exact(by simp[Hid]:Hid (eX (bI L) ns []=eX (bI L) (ns.drop ([]:List (Nat×W2)).length) ([]:List W2)))
   case sm=>simp
   case fr=>intro i x hx;simp at hx
   case bel=>exact(Zl _ _).alloc (by simp[Le]) _
  case round =>
   obtain⟨X,st,v0,v1,v2,hk,rfl,hst⟩:=hrel;obtain⟨aI,hsz,hbox,iP,yx,rQ,rX⟩:=hst.facts;have gZ:=hst.rows;obtain⟨hx0,hx1,hx2,hfx⟩:=Zb gZ.x0 (Zb gZ.x1 (Zb gZ.x2 gZ.fx));obtain⟨a0,b0,rfl⟩:=gZ.r0.shape X.length (by simp);obtain⟨a1,b1,rfl⟩:=gZ.r1.shape X.length (by simp);obtain⟨a2,b2,rfl⟩:=gZ.r2.shape X.length (by simp);by_cases hlt:X.length<ns.length
   ·obtain⟨b,o,rfl,_,dI⟩:=hat X.length hlt;obtain⟨c0,c1,c2⟩:=dI.keep aI;have lu:=hs ns[X.length] (Zp _);have HD:=Za (ZN hlt);clear hat dI hs;by_cases qh:jB ns[X.length]=true
    ·
     as_aux_lemma =>
      have BF:(ns[X.length].kind==17)=false:=by
       simp only[jB,Zu,ZF]at qh;simp;omega
      have mQ:¬(ns[X.length].kind=15\/ns[X.length].kind=16):=by
       simp only[jB,Zu,ZF]at qh;omega
      have AU:bI L ns[X.length]=some (wF ns[X.length]):=by
       unfold bI;rw[ZH (by simpa using BF),ZE qh]
      have hsm:=asf qh;have HG:Hid (eX (bI L) ns []=eX (bI L) (ns.drop (X.length+1)) (wF ns[X.length]::st)):=(show eX (bI L) ns []=_ by
       rw[hst.go.out,HD.out,abI mQ AU])
      have Dl:=Za qh;have Ux:=Za (akq hst.fr hlt mQ);clear AU mQ qh;go_wp2_with (first|(go_at_call 115;refine(Dz ns[X.length] _).mono ?_;rintro e w2⟨rfl,hb2⟩;rw[Dl.out];obtain⟨hc2,hf2,hs2⟩:=n_ hb2;have gQ:=(gZ.keep ((Zl _ _).alloc (Zj _) _)).keep hb2;simp only[Zn]at hs2;have hl2:wr.heap.size<w2.heap.size:=(by omega);have fM:Below (w.heap.size+1+1) wr w2:=((Zl _ _).alloc (by omega) _).trans (hb2.mono (by simp;omega));clear hb2)|(go_at_call 170;refine(acd ns[X.length] _).mono ?_;rintro e w3⟨rfl,hb3⟩;obtain⟨hc3,hf3,hs3⟩:=n_ hb3;have Ld:wr.heap.size<w3.heap.size:=(by omega);have pX:=gQ.keep hb3;obtain⟨y0,y1,y2,yf⟩:=Zb pX.x0 (Zb pX.x1 (Zb pX.x2 pX.fx));have Jh:Below (w.heap.size+1+1) wr w3:=fM.trans (hb3.mono (by omega));clear hb3)|(at_builtin;refine Iw rfl (.tmp 68) (.tmp 70) rfl (w.heap.size+1+1+1) _ _ _ _ _ (by simp) rfl rfl pX.r0 (by first|omega|(simp;omega)) (by first|omega|(simp;omega)) ?_;intro u0 W1 p1 p2 p3;obtain⟨D9,cp0,rfl⟩:=p1.shape (X.length+1) (by simp);have P1:=(pX.keep (aH _ _)).app0 p2 p1 p3;obtain⟨g0,g1,g2,gf,gs⟩:=pX.Jg p2 (row_ne pX.r0 pX.lt);have B1:=Jf (j:=0) (u:=Value.slice D9 (X.length+1) cp0) Jh (Zj _) (by omega) (by first|omega|(simp;omega)) pX.r0 p2;clear p1 p2 p3)|(at_builtin;refine Iw rfl (.tmp 74) (.tmp 76) rfl (w.heap.size+1+1+1) _ _ _ _ _ (by simp) rfl rfl P1.r1 (by first|omega|(simp;omega)) (by first|omega|(simp;omega)) ?_;intro u1 W2 p1 p2 p3;obtain⟨QJ,QK,rfl⟩:=p1.shape (X.length+1) (by simp);have P2:=(P1.keep (aH _ _)).app1 p2 p1 p3;obtain⟨k0,k1,k2,kf,ks⟩:=P1.Jg p2 (row_ne P1.r1 P1.lt);(try simp only[MF]at ks);have B2:=Jf (j:=1) (u:=Value.slice QJ (X.length+1) QK) B1 (Zj _) (by omega) (by first|omega|(simp;omega)) P1.r1 p2;clear p1 p2 p3)|(at_builtin;refine Iw rfl (.tmp 80) (.tmp 82) rfl (w.heap.size+1+1+1) _ _ _ _ _ (by simp) rfl rfl P2.r2 (by first|omega|(simp;omega)) (by first|omega|(simp;omega)) ?_;intro u2 W3 p1 p2 p3;obtain⟨QL,cp2,rfl⟩:=p1.shape (X.length+1) (by simp);have P3:=(P2.keep (aH _ _)).RU p2 p1 p3;obtain⟨l0,l1,l2,lf,ls⟩:=P2.Jg p2 (row_ne P2.r2 P2.lt);(try simp only[MF]at ls);have B3:=Jf (j:=2) (u:=Value.slice QL (X.length+1) cp2) B2 (Zj _) (by omega) (by first|omega|(simp;omega)) P2.r2 p2;clear p1 p2 p3))
      go_roundw
      case rel=>exact⟨_,_,_,_,_,by simp;omega,by simp,hst.push B3 P3 (akm hst.ch _) HG hst.sm hsm (Ux.out _)⟩
      case measure=>simp[intOf];omega
    ·by_cases BF:ns[X.length].kind=17
     ·
      as_aux_lemma =>
       have h17:(ns[X.length].kind==17)=true:=by simp[BF]
       have mQ:¬(ns[X.length].kind=15\/ns[X.length].kind=16):=by omega
       have Dl:=Za (show jB ns[X.length]=false by simpa using qh);have hL':=hL;have hff:=ahU ns[X.length].name L 0;rcases hff with⟨f1,f2⟩|⟨i,hi,f1,f2⟩
       ·
        have HT:Hid (bP (bI L) ns=none):=(show _=_ by
         unfold bP;rw[ZE hl,hst.go.out,HD.out,abH mQ (by unfold bI;rw[ZE BF,f2];simp)])
        have F1:=Za f1;clear f1 f2 BF mQ qh;go_wp2_with (first|(go_at_call 115;refine(Dz ns[X.length] _).mono ?_;rintro e w2⟨rfl,hb2⟩;rw[Dl.out];obtain⟨hc2,hf2,hs2⟩:=n_ hb2;have gQ:=(gZ.keep ((Zl _ _).alloc (Zj _) _)).keep hb2;simp only[Zn]at hs2;have hl2:wr.heap.size<w2.heap.size:=(by omega);have fM:Below (w.heap.size+1+1) wr w2:=((Zl _ _).alloc (by omega) _).trans (hb2.mono (by simp;omega));clear hb2)|(go_at_call 170;refine(acd ns[X.length] _).mono ?_;rintro e w3⟨rfl,hb3⟩;obtain⟨hc3,hf3,hs3⟩:=n_ hb3;have Ld:wr.heap.size<w3.heap.size:=(by omega);have pX:=gQ.keep hb3;obtain⟨y0,y1,y2,yf⟩:=Zb pX.x0 (Zb pX.x1 (Zb pX.x2 pX.fx));have Jh:Below (w.heap.size+1+1) wr w3:=fM.trans (hb3.mono (by omega));clear hb3)|(go_at_call 171;refine(ad9 _ L _ _ (hL.keep (aI.trans (Jh.mono (by omega)))) EX).mono ?_;rintro e w4⟨rfl,hb4⟩;rw[F1.out];obtain⟨hc4,hf4,yC⟩:=n_ hb4;have hl4:wr.heap.size<w4.heap.size:=(by omega);have qM:=Jh.trans (hb4.mono (by omega));have BG:=pX.keep hb4;obtain⟨z0,z1,z2,zf⟩:=Zb BG.x0 (Zb BG.x1 (Zb BG.x2 BG.fx));clear hb4;have t0:=(Ys qM (p:=⟨w.heap.size+1,0,none⟩) (by simp)).trans yx;have t1:=(Ys qM (p:=⟨w.heap.size+1,1,none⟩) (by simp)).trans rQ;have t2:=(Ys qM (p:=⟨w.heap.size+1,2,none⟩) (by simp)).trans rX;have tf:∀j,w4.frozen? ⟨w.heap.size+1,j,none⟩=false:=λj=>(Xw qM (p:=⟨w.heap.size+1,j,none⟩) (by simp)).trans (iP j)))
        (refine Zt (v:=.tuple #[.agg #[.slice a0 X.length b0,.slice a1 X.length b1,.slice a2 X.length b2],.bool false]) (by simp[results,Tryz.results144,go_sem,t0,t1,t2]) rfl ⟨_,_,_,_,_,_,_,_,_,by rw[HT.out];rfl,?_,by rw[HT.out];simp⟩;exact(((aI.trans (qM.mono (by omega))).setCell (by simp) _).setCell (by simp) _).setCell (by simp) _)
       ·rw[Yp]at f1;have F1:=Za f1;by_cases hv0:ns[X.length].value=0
        ·have IJ:(ns[X.length].value != 0)=false:=by simp[hv0]
         have hsm:=hLs L[i] (Zp _);have HG:Hid (eX (bI L) ns []=eX (bI L) (ns.drop (X.length+1)) ((L[i].inn,L[i].out)::st)):=(show eX (bI L) ns []=_ by
          rw[hst.go.out,HD.out,abI mQ (by unfold bI;rw[ZE BF,ZE hv0,f2];rfl)])
         obtain⟨aL,awl,rfl,_,aku⟩:=hL';obtain⟨bL,oL,rfl,_,d0,d1,d2,_⟩:=aku i hi;have Ux:=Za (akq hst.fr hlt mQ);clear f1 f2 BF mQ qh hv0 aku;go_wp2_with (first|(go_at_call 115;refine(Dz ns[X.length] _).mono ?_;rintro e w2⟨rfl,hb2⟩;rw[Dl.out];obtain⟨hc2,hf2,hs2⟩:=n_ hb2;have gQ:=(gZ.keep ((Zl _ _).alloc (Zj _) _)).keep hb2;simp only[Zn]at hs2;have hl2:wr.heap.size<w2.heap.size:=(by omega);have fM:Below (w.heap.size+1+1) wr w2:=((Zl _ _).alloc (by omega) _).trans (hb2.mono (by simp;omega));clear hb2)|(go_at_call 170;refine(acd ns[X.length] _).mono ?_;rintro e w3⟨rfl,hb3⟩;obtain⟨hc3,hf3,hs3⟩:=n_ hb3;have Ld:wr.heap.size<w3.heap.size:=(by omega);have pX:=gQ.keep hb3;obtain⟨y0,y1,y2,yf⟩:=Zb pX.x0 (Zb pX.x1 (Zb pX.x2 pX.fx));have Jh:Below (w.heap.size+1+1) wr w3:=fM.trans (hb3.mono (by omega));clear hb3)|(go_at_call 171;refine(ad9 _ L _ _ (hL.keep (aI.trans (Jh.mono (by omega)))) EX).mono ?_;rintro e w4⟨rfl,hb4⟩;rw[F1.out];obtain⟨hc4,hf4,yC⟩:=n_ hb4;have hl4:wr.heap.size<w4.heap.size:=(by omega);have qM:=Jh.trans (hb4.mono (by omega));have BG:=pX.keep hb4;obtain⟨z0,z1,z2,zf⟩:=Zb BG.x0 (Zb BG.x1 (Zb BG.x2 BG.fx));clear hb4;have t0:=(Ys qM (p:=⟨w.heap.size+1,0,none⟩) (by simp)).trans yx;have t1:=(Ys qM (p:=⟨w.heap.size+1,1,none⟩) (by simp)).trans rQ;have t2:=(Ys qM (p:=⟨w.heap.size+1,2,none⟩) (by simp)).trans rX;have tf:∀j,w4.frozen? ⟨w.heap.size+1,j,none⟩=false:=λj=>(Xw qM (p:=⟨w.heap.size+1,j,none⟩) (by simp)).trans (iP j)))
         have hd:=aI.trans (qM.mono (by omega));have e1:=aK hd d1;have e2:=aK hd d2;have hiN:(i:Int)<L.length:=by omega
         have hbL:=cell_lt e1;refine h_ (C:=aC (dD) _) 2 [0,1,2,3,4,5,6,7,8,9,10,11] (by kernel_rfl) (by kernel_rfl) (aC.aJ _ _) (aC.refl _ _) ?_;iterate 12 (apply dh rfl rfl rfl;(focus intro u hc' hf';go_simp<;>rfl);intro K hK;go_simp;apply hK;clear hK K)
         refine dR ?_;have E_:=BG.keep (Zl w4.heap.size w4).drew;have akv:=qM.drew;have gs5:=E_.bz;obtain⟨z0',z1',z2',zf'⟩:=Zb E_.x0 (Zb E_.x1 (Zb E_.x2 E_.fx));generalize w4.drew=W5 at E_ akv gs5 z0' z1' z2' zf' ⊢;go_wp2_with (first|(at_builtin;refine Iw rfl (.tmp 68) (.tmp 70) rfl (w.heap.size+1+1+1) _ _ _ _ _ (by simp) rfl rfl E_.r0 (by first|omega|(simp;omega)) (by first|omega|(simp;omega)) ?_;intro u0 W1 p1 p2 p3;obtain⟨D9,cp0,rfl⟩:=p1.shape (X.length+1) (by simp);have P1:=(E_.keep (aH _ _)).app0 p2 p1 p3;obtain⟨g0,g1,g2,gf,gs⟩:=E_.Jg p2 (row_ne E_.r0 E_.lt);have B1:=Jf (j:=0) (u:=Value.slice D9 (X.length+1) cp0) akv (Zj _) (by omega) (by first|omega|(simp;omega)) E_.r0 p2;clear p1 p2 p3)|(at_builtin;refine Iw rfl (.tmp 74) (.tmp 76) rfl (w.heap.size+1+1+1) _ _ _ _ _ (by simp) rfl rfl P1.r1 (by first|omega|(simp;omega)) (by first|omega|(simp;omega)) ?_;intro u1 W2 p1 p2 p3;obtain⟨QJ,QK,rfl⟩:=p1.shape (X.length+1) (by simp);have P2:=(P1.keep (aH _ _)).app1 p2 p1 p3;obtain⟨k0,k1,k2,kf,ks⟩:=P1.Jg p2 (row_ne P1.r1 P1.lt);(try simp only[MF]at ks);have B2:=Jf (j:=1) (u:=Value.slice QJ (X.length+1) QK) B1 (Zj _) (by omega) (by first|omega|(simp;omega)) P1.r1 p2;clear p1 p2 p3)|(at_builtin;refine Iw rfl (.tmp 80) (.tmp 82) rfl (w.heap.size+1+1+1) _ _ _ _ _ (by simp) rfl rfl P2.r2 (by first|omega|(simp;omega)) (by first|omega|(simp;omega)) ?_;intro u2 W3 p1 p2 p3;obtain⟨QL,cp2,rfl⟩:=p1.shape (X.length+1) (by simp);have P3:=(P2.keep (aH _ _)).RU p2 p1 p3;obtain⟨l0,l1,l2,lf,ls⟩:=P2.Jg p2 (row_ne P2.r2 P2.lt);(try simp only[MF]at ls);have B3:=Jf (j:=2) (u:=Value.slice QL (X.length+1) cp2) B2 (Zj _) (by omega) (by first|omega|(simp;omega)) P2.r2 p2;clear p1 p2 p3))
         go_roundw
         case rel=>exact⟨_,_,_,_,_,by simp;omega,by simp,hst.push B3 P3 (akm hst.ch _) HG hst.sm hsm (Ux.out _)⟩
         case measure=>simp[intOf];omega
        ·have IJ:(ns[X.length].value != 0)=true:=by simp[hv0]
         have HT:Hid (bP (bI L) ns=none):=(show _=_ by
          unfold bP;rw[ZE hl,hst.go.out,HD.out,abH mQ (by unfold bI;rw[ZE BF,ZH hv0])])
         clear f1 f2 BF mQ qh hv0;go_wp2_with (first|(go_at_call 115;refine(Dz ns[X.length] _).mono ?_;rintro e w2⟨rfl,hb2⟩;rw[Dl.out];obtain⟨hc2,hf2,hs2⟩:=n_ hb2;have gQ:=(gZ.keep ((Zl _ _).alloc (Zj _) _)).keep hb2;simp only[Zn]at hs2;have hl2:wr.heap.size<w2.heap.size:=(by omega);have fM:Below (w.heap.size+1+1) wr w2:=((Zl _ _).alloc (by omega) _).trans (hb2.mono (by simp;omega));clear hb2)|(go_at_call 170;refine(acd ns[X.length] _).mono ?_;rintro e w3⟨rfl,hb3⟩;obtain⟨hc3,hf3,hs3⟩:=n_ hb3;have Ld:wr.heap.size<w3.heap.size:=(by omega);have pX:=gQ.keep hb3;obtain⟨y0,y1,y2,yf⟩:=Zb pX.x0 (Zb pX.x1 (Zb pX.x2 pX.fx));have Jh:Below (w.heap.size+1+1) wr w3:=fM.trans (hb3.mono (by omega));clear hb3)|(go_at_call 171;refine(ad9 _ L _ _ (hL.keep (aI.trans (Jh.mono (by omega)))) EX).mono ?_;rintro e w4⟨rfl,hb4⟩;rw[F1.out];obtain⟨hc4,hf4,yC⟩:=n_ hb4;have hl4:wr.heap.size<w4.heap.size:=(by omega);have qM:=Jh.trans (hb4.mono (by omega));have BG:=pX.keep hb4;obtain⟨z0,z1,z2,zf⟩:=Zb BG.x0 (Zb BG.x1 (Zb BG.x2 BG.fx));clear hb4;have t0:=(Ys qM (p:=⟨w.heap.size+1,0,none⟩) (by simp)).trans yx;have t1:=(Ys qM (p:=⟨w.heap.size+1,1,none⟩) (by simp)).trans rQ;have t2:=(Ys qM (p:=⟨w.heap.size+1,2,none⟩) (by simp)).trans rX;have tf:∀j,w4.frozen? ⟨w.heap.size+1,j,none⟩=false:=λj=>(Xw qM (p:=⟨w.heap.size+1,j,none⟩) (by simp)).trans (iP j)))
         (refine Zt (v:=.tuple #[.agg #[.slice a0 X.length b0,.slice a1 X.length b1,.slice a2 X.length b2],.bool false]) (by simp[results,Tryz.results144,go_sem,t0,t1,t2]) rfl ⟨_,_,_,_,_,_,_,_,_,by rw[HT.out];rfl,?_,by rw[HT.out];simp⟩;exact(((aI.trans (qM.mono (by omega))).setCell (by simp) _).setCell (by simp) _).setCell (by simp) _)
     ·have h17:(ns[X.length].kind==17)=false:=by simp[BF]
      have Dl:=Za (show jB ns[X.length]=false by simpa using qh);by_cases mQ:ns[X.length].kind=15\/ns[X.length].kind=16
      ·have mX:(ns[X.length].kind != 15)=false\/((ns[X.length].kind != 15)=true/\(ns[X.length].kind != 16)=false):=by
        rcases mQ with h|h<;>simp[h]
       by_cases pV:ns[X.length].value=0/\ns[X.length].name=ByteArray.empty
       ·obtain⟨hv0,CO⟩:=pV;have gv:(ns[X.length].value != 0)=false:=by simp[hv0]
        have gn:(!ns[X.length].name.toList.isEmpty)=false:=by have:=(Yq _).2 CO;simp[this]
        by_cases hlen:st.length<2
        ·
         as_aux_lemma =>
          have HT:Hid (bP (bI L) ns=none):=(show _=_ by
           unfold bP;rw[ZE hl,hst.go.out,HD.out,agQ mQ hlen])
          by_cases hX2:X.length<2
          ·have gl:(X.length:Int)<2:=by omega
           clear hv0 CO mQ BF qh hlen;rcases mX with gk|⟨gk,Pj⟩
           all_goals
            go_wp2_with (first|(go_at_call 115;refine(Dz ns[X.length] _).mono ?_;rintro e w2⟨rfl,hb2⟩;rw[Dl.out];obtain⟨hc2,hf2,hs2⟩:=n_ hb2;have gQ:=(gZ.keep ((Zl _ _).alloc (Zj _) _)).keep hb2;simp only[Zn]at hs2;have hl2:wr.heap.size<w2.heap.size:=(by omega);have dF:Below wr.heap.size wr w2:=((Zl _ _).alloc (Zj _) _).trans (hb2.mono (by simp));have fM:Below (w.heap.size+1+1) wr w2:=((Zl _ _).alloc (by omega) _).trans (hb2.mono (by simp;omega));obtain⟨y0,y1,y2,yf⟩:=Zb gQ.x0 (Zb gQ.x1 (Zb gQ.x2 gQ.fx));clear hb2;have t0:=(Ys fM (p:=⟨w.heap.size+1,0,none⟩) (by simp)).trans yx;have t1:=(Ys fM (p:=⟨w.heap.size+1,1,none⟩) (by simp)).trans rQ;have t2:=(Ys fM (p:=⟨w.heap.size+1,2,none⟩) (by simp)).trans rX;have tf:∀j,w2.frozen? ⟨w.heap.size+1,j,none⟩=false:=λj=>(Xw fM (p:=⟨w.heap.size+1,j,none⟩) (by simp)).trans (iP j)))
            (refine Zt (v:=.tuple #[.agg #[.slice a0 X.length b0,.slice a1 X.length b1,.slice a2 X.length b2],.bool false]) (by simp[results,Tryz.results144,go_sem,t0,t1,t2]) rfl ⟨_,_,_,_,_,_,_,_,_,by rw[HT.out];rfl,?_,by rw[HT.out];simp⟩;exact(((aI.trans (fM.mono (by omega))).setCell (by simp) _).setCell (by simp) _).setCell (by simp) _)
          ·have j_:∃tb,X[X.length-1]?=some (0,tb):=by
            match st,hst.ch,hlen with
            | [],h,_=>have:=chain_nil h;subst this;simp at hX2
            | [tb],h,_=>exact⟨tb,(afU h).2⟩
           obtain⟨tb,j_⟩:=j_;have gl:¬(X.length:Int)<2:=by omega
           obtain⟨G0,Oc⟩:=gZ.r0.some (by simp;omega);subst Oc;obtain⟨nR,vU⟩:=G9 j_ (λp:Nat×W2=>(p.1:Int));have hF:=gZ.r0.cell _ nR;rw[vU]at hF;have hGz:=cell_lt hF;have gi1:(1:Int)<=X.length:=by omega
           have gi2:(X.length:Int)-1<X.length:=by omega
           clear hv0 CO mQ BF qh hlen vU j_;rcases mX with gk|⟨gk,Pj⟩
           all_goals
            go_wp2_with (first|(go_at_call 115;refine(Dz ns[X.length] _).mono ?_;rintro e w2⟨rfl,hb2⟩;rw[Dl.out];obtain⟨hc2,hf2,hs2⟩:=n_ hb2;have gQ:=(gZ.keep ((Zl _ _).alloc (Zj _) _)).keep hb2;simp only[Zn]at hs2;have hl2:wr.heap.size<w2.heap.size:=(by omega);have dF:Below wr.heap.size wr w2:=((Zl _ _).alloc (Zj _) _).trans (hb2.mono (by simp));have fM:Below (w.heap.size+1+1) wr w2:=((Zl _ _).alloc (by omega) _).trans (hb2.mono (by simp;omega));obtain⟨y0,y1,y2,yf⟩:=Zb gQ.x0 (Zb gQ.x1 (Zb gQ.x2 gQ.fx));clear hb2;have t0:=(Ys fM (p:=⟨w.heap.size+1,0,none⟩) (by simp)).trans yx;have t1:=(Ys fM (p:=⟨w.heap.size+1,1,none⟩) (by simp)).trans rQ;have t2:=(Ys fM (p:=⟨w.heap.size+1,2,none⟩) (by simp)).trans rX;have tf:∀j,w2.frozen? ⟨w.heap.size+1,j,none⟩=false:=λj=>(Xw fM (p:=⟨w.heap.size+1,j,none⟩) (by simp)).trans (iP j)))
            (refine Zt (v:=.tuple #[.agg #[.slice (some ⟨G0,0,none⟩) X.length b0,.slice a1 X.length b1,.slice a2 X.length b2],.bool false]) (by simp[results,Tryz.results144,go_sem,t0,t1,t2]) rfl ⟨_,_,_,_,_,_,_,_,_,by rw[HT.out];rfl,?_,by rw[HT.out];simp⟩;exact(((aI.trans (fM.mono (by omega))).setCell (by simp) _).setCell (by simp) _).setCell (by simp) _)
        ·obtain⟨tb,ta,st',rfl⟩:∃tb ta st',st=tb::ta::st':=by
          match st,hlen with
          | [],h=>simp at h
          | [x],h=>simp at h
          | x::y::r,_=>exact⟨x,y,r,rfl⟩
         obtain⟨f,g,rF,hf1,jS,hXf,hgf,akw⟩:=akn hst.ch;obtain⟨sb1,sb2,sb3,sb4⟩:=hst.sm tb (by simp);obtain⟨sa1,sa2,sa3,sa4⟩:=hst.sm ta (by simp);have acj:∀x∈st',Sm x:=λx hx=>hst.sm x (by simp[hx]);have hx2:2<=X.length:=by omega
         obtain⟨G0,Oc⟩:=gZ.r0.some (by simp;omega);obtain⟨G1,hG1⟩:=gZ.r1.some (by simp;omega);obtain⟨G2,hG2⟩:=gZ.r2.some (by simp;omega);subst Oc;subst hG1;subst hG2;have f0:wr.cell? ⟨G0,X.length-1,none⟩=some (.int .i64 (f:Int)):=by obtain⟨nR,vU⟩:=G9 rF (λp:Nat×W2=>(p.1:Int));rw[gZ.r0.cell _ nR,vU]
         have f1:wr.cell? ⟨G0,f-1,none⟩=some (.int .i64 (g:Int)):=by obtain⟨nR,vU⟩:=G9 hXf (λp:Nat×W2=>(p.1:Int));rw[gZ.r0.cell _ nR,vU]
         have i0':wr.cell? ⟨G1,X.length-1,none⟩=some (.int .i64 tb.1):=by obtain⟨nR,vU⟩:=G9 rF (λp:Nat×W2=>p.2.1);rw[gZ.r1.cell _ nR,vU]
         have i1':wr.cell? ⟨G1,f-1,none⟩=some (.int .i64 ta.1):=by obtain⟨nR,vU⟩:=G9 hXf (λp:Nat×W2=>p.2.1);rw[gZ.r1.cell _ nR,vU]
         have o0':wr.cell? ⟨G2,X.length-1,none⟩=some (.int .i64 tb.2):=by obtain⟨nR,vU⟩:=G9 rF (λp:Nat×W2=>p.2.2);rw[gZ.r2.cell _ nR,vU]
         have o1':wr.cell? ⟨G2,f-1,none⟩=some (.int .i64 ta.2):=by obtain⟨nR,vU⟩:=G9 hXf (λp:Nat×W2=>p.2.2);rw[gZ.r2.cell _ nR,vU]
         have awm:=cell_lt f0;have awn:=cell_lt i0';have awo:=cell_lt o0';have gi1:(1:Int)<=X.length:=by omega
         have gi2:(X.length:Int)-1<X.length:=by omega
         have gi3:(1:Int)<=f:=by omega
         have gi4:(f:Int)-1<X.length:=by omega
         have gl:¬(X.length:Int)<2:=by omega
         have gf:¬(f:Int)<1:=by omega
         have aat:∀x,og ns[X.length].kind ta tb=some x->Hid (eX (bI L) ns []=eX (bI L) (ns.drop (X.length+1)) (x::st')):=λx hx=>(show eX (bI L) ns []=_ by
          rw[hst.go.out,HD.out,agS mQ hv0 CO hx])
         have aau:og ns[X.length].kind ta tb=none->Hid (bP (bI L) ns=none):=λhx=>(show _=_ by
          unfold bP;rw[ZE hl,hst.go.out,HD.out,agR mQ hx])
         have HG1:=Za aat;have HG2:=Za aau;have HXl:=Za rF;have Ux:=Za (asa hst.fr hlt mQ rF hXf);clear hv0 CO aat aau rF hXf hlen;have Uy:IntKind.i64.wrap (ta.1+tb.1)=ta.1+tb.1:=Z8 _ (by omega);have Uz:IntKind.i64.wrap (ta.2+tb.2)=ta.2+tb.2:=Z8 _ (by omega);have Ji:((X.length:Int)-1).toNat=X.length-1:=by omega
         have UA:((f:Int)-1).toNat=f-1:=by omega
         have ET:=Za (Zb (Zb Uy Uz) (Zb Ji UA));clear Uy Uz Ji UA;rcases mX with gk|⟨gk,Pj⟩
         ·have gk2:(ns[X.length].kind==15)=true:=by simpa using gk
          have Lh:ns[X.length].kind=15:=by simpa using gk
          by_cases D_:ta.2=tb.1
          ·
           as_aux_lemma =>
            have HG:=HG1.out (ta.1,tb.2) (by unfold og;rw[ZE Lh,ZE D_]);have gjo:(ta.2 != tb.1)=false:=by simp[D_]
            have gb1:¬(12:Int)<ta.1:=by omega
            have gb2:¬(12:Int)<tb.2:=by omega
            clear Lh D_ mQ;go_wp2_with (first|(go_at_call 115;refine(Dz ns[X.length] _).mono ?_;rintro e w2⟨rfl,hb2⟩;rw[Dl.out];obtain⟨hc2,hf2,hs2⟩:=n_ hb2;have gQ:=(gZ.keep ((Zl _ _).alloc (Zj _) _)).keep hb2;simp only[Zn]at hs2;have hl2:wr.heap.size<w2.heap.size:=(by omega);have dF:Below wr.heap.size wr w2:=((Zl _ _).alloc (Zj _) _).trans (hb2.mono (by simp));have fM:Below (w.heap.size+1+1) wr w2:=((Zl _ _).alloc (by omega) _).trans (hb2.mono (by simp;omega));obtain⟨y0,y1,y2,yf⟩:=Zb gQ.x0 (Zb gQ.x1 (Zb gQ.x2 gQ.fx));clear hb2;have t0:=(Ys fM (p:=⟨w.heap.size+1,0,none⟩) (by simp)).trans yx;have t1:=(Ys fM (p:=⟨w.heap.size+1,1,none⟩) (by simp)).trans rQ;have t2:=(Ys fM (p:=⟨w.heap.size+1,2,none⟩) (by simp)).trans rX;have tf:∀j,w2.frozen? ⟨w.heap.size+1,j,none⟩=false:=λj=>(Xw fM (p:=⟨w.heap.size+1,j,none⟩) (by simp)).trans (iP j)))
            obtain⟨⟨Uy,Uz⟩,Ji,UA⟩:=ET.out;have qxb:=gQ.bz;have q0:=aK dF f0;have q1:=aK dF f1;have q2:=aK dF i0';have q3:=aK dF i1';have q4:=aK dF o0';have q5:=aK dF o1';have qz0:=cell_lt q0;have qz1:=cell_lt q2;have qz2:=cell_lt q4;refine h_ (C:=aC (dD) _) 2 [0,1,2,3,4,5,6,7,8,9,10,11,12,13,14,15,16,17,18,19,20,21,22,23] (by kernel_rfl) (by kernel_rfl) (aC.aJ _ _) (aC.refl _ _) ?_;iterate 24 (apply dh rfl rfl rfl;(focus intro u hc' hf';go_simp<;>rfl);intro K hK;go_simp;apply hK;clear hK K)
            refine dR ?_;go_wp2;refine h_ (C:=aC (dD) _) 2 [0,1,2,3,4,5,6,7,8,9,10] (by kernel_rfl) (by kernel_rfl) (aC.aJ _ _) (aC.refl _ _) ?_;iterate 11 (apply dh rfl rfl rfl;(focus intro u hc' hf';(try simp only[Zo]at hc' hf');go_simp<;>rfl);intro K hK;go_simp;apply hK;clear hK K)
            refine dR ?_;go_wp2;refine h_ (C:=aC (dD) _) 2 [0,1,2,3,4,5,6,7,8,9,10,11] (by kernel_rfl) (by kernel_rfl) (aC.aJ _ _) (aC.refl _ _) ?_;iterate 12 (apply dh rfl rfl rfl;(focus intro u hc' hf';(try simp only[Zo]at hc' hf');go_simp<;>rfl);intro K hK;go_simp;apply hK;clear hK K)
            refine dR ?_;go_wp2;generalize Lj:w2.drew.drew.drew=WW;have lU:uq WW (w.heap.size+1+1+1) (w.heap.size+1+1) (Value.slice (some ⟨G0,0,none⟩) X.length b0) (Value.slice (some ⟨G1,0,none⟩) X.length b1) (Value.slice (some ⟨G2,0,none⟩) X.length b2) (X.map λp=>(p.1:Int)) (X.map λp=>p.2.1) (X.map λp=>p.2.2):=by
             rw[<-Lj];exact gQ.keep (Zl _ _).drew.drew.drew
            have Ag:Below (w.heap.size+1+1) wr WW:=by rw[<-Lj];exact fM.drew.drew.drew
            have qW1:WW.cell? ⟨G0,f-1,none⟩=some (.int .i64 (g:Int)):=by rw[<-Lj];exact q1
            clear Lj;have xbz:w.heap.size+1+1<WW.heap.size:=lU.bz;have xG:¬w.heap.size+1+1=G0:=λe=>row_ne lU.r0 lU.lt (by rw[<-e];rfl);have QM:=cell_lt qW1;obtain⟨z0,z1,z2,zf⟩:=Zb lU.x0 (Zb lU.x1 (Zb lU.x2 lU.fx));have asg:f-1<X.length:=by omega
            refine yh (C:=xC WW.drew G0 X.length) (N:=WW.drew.heap.size) 3 [0,1,2,3,4,5,6,7,8,9] [10] (by kernel_rfl) (by kernel_rfl) (xC.aJ _ _ _) (xC.refl _ _ _ (by simpa using QM)) ?_;iterate 7
             refine Ir rfl rfl rfl (λK hK=>?_);apply Zq;refine⟨λw' hw'=>?_,?_⟩
             ·obtain⟨hc',hf'⟩:=hw'.1.cell;have eH:=hw'.2.1
              try simp only[Zo]at hc' hf' eH
              go_simp;rfl
             go_simp;refine hK _ _ _ ?_;clear hK K
            refine ku rfl rfl rfl (xC.aJ _ _ _) (xC.refl _ _ _ (by simpa using QM)) (λb=>.slice (some ⟨b,0,none⟩) 1 1) (λK hK=>?_);apply Zq;refine⟨λw' hw'=>?_,λbb w5 gu bH aW hNb d_=>?_⟩
            ·go_simp;rfl
            go_simp;refine hK _ _ _ ?_;clear hK K;refine ako rfl rfl rfl (xC.aJ _ _ _) gu (.tmp 180) (.tmp 186) 23 rfl (w.heap.size+1+1+1) 3 i0 (.int .i64 0) 1 8 Tryz.underlying23 hi hz0 hz1 hz2 rfl (by decide) (.slice (some ⟨G0,0,none⟩) X.length b0) X.length ((X.map λp=>(p.1:Int)).flatMap gU) rfl (λk hk=>.inl (by simp[Value.ownBlock]at hk;subst hk;simpa using QM)) ⟨bb,0,none⟩ 1 1 [.int .i64 (g:Int)] rfl rfl (by intro u hu;simp at hu;subst hu;rfl) (by unfold maxLen;omega) (by omega) (by have:=bH.size;simp at this;omega) ?_ ?_ ?_
            ·intro w6 jk aV;have eY:Below WW.heap.size WW w6:=(Zl WW.heap.size WW).drew.trans ((bH.mono (by simp)).trans (aV.mono (by have:=bH.size;simpa using this)));have r6:=lU.r0.keep eY;unfold Rw at r6;rw[ZG]at r6;obtain⟨m0,_,_⟩:=made_cell ((aV.block bb (made_cell aW).2.2).trans aW);refine⟨r6,λj u hj=>?_⟩
             match j,hj with
             | 0,hj=>simp at hj;subst hj;simp[Addr.add,m0]
            ·intro w6 w7 v' jk aV G_ Ac Ll;have eY:Below WW.heap.size WW w6:=(Zl WW.heap.size WW).drew.trans ((bH.mono (by simp)).trans (aV.mono (by have:=bH.size;simpa using this)));have r6:=lU.r0.keep eY;unfold Rw at r6;rw[ZG]at r6;exact jk.append rfl r6 (by omega) G_ (by omega) Ac Ll
            intro K hK w6 w7 v' jk aV G_ Ac f_ Ll;have eY:Below WW.heap.size WW w6:=(Zl WW.heap.size WW).drew.trans ((bH.mono (by simp)).trans (aV.mono (by have:=bH.size;simpa using this)));obtain⟨D9,cp0,rfl⟩:=acf G_;have r7:Rw w7 (w.heap.size+1+1+1) (.slice D9 (X.length+1) cp0) ((X.map λp=>(p.1:Int))++[(g:Int)]):=by
             unfold Rw;rw[Zk,ZG,ZL];exact G_
            have abk:=Ll.imp id (λh=>h.1);go_simp;refine hK _ _ _ ?_;clear hK K;iterate 1
             refine Ir rfl rfl rfl (λK hK=>?_);apply Zq;refine⟨λw' hw'=>?_,?_⟩
             ·obtain⟨hc',hf'⟩:=hw'.1.cell;have eH:=hw'.2.1
              try simp only[Zo]at hc' hf' eH
              go_simp;rfl
             go_simp;refine hK _ _ _ ?_;clear hK K
            refine dR ?_;have La:w.heap.size+1+1<w7.heap.size:=by have h1:=f_.1.size;simp at h1;omega
            refine⟨aC (λj=>j=w.heap.size+1+1) w7,w7.heap.size,aC.aJ _ _,aC.refl _ _,?_⟩;refine jd rfl rfl rfl (aC.aJ _ _) (aC.refl _ _) (λK hK=>?_);intro w8 dY bJ;have P1:=akr lU eY Ac r7 abk bJ;have B1:=aks (j:=0) (u:=Value.slice D9 (X.length+1) cp0) Ag (by omega) (Zj _) (by omega) eY lU.r0 Ac bJ;have c8:=(RS (o:=0) (afV Ac bJ) (lU.keep eY).bz (row_ne lU.r0 lU.lt))
            have k8:=c8.1.trans (lU.keep eY).x0;have f8:=c8.2.trans ((lU.keep eY).fx 0);clear c8;refine⟨w8.setCell ⟨w.heap.size+1+1,0,none⟩ (.slice D9 (X.length+1) cp0),?_,⟨bF dY (.inr rfl) _,by simp,λj hj _ _=>by rw[Zm _ _ _ _ (λh=>by simp at h;omega)]⟩,?_⟩
            ·go_simp
            go_simp;refine hK _ _ _ ?_;clear hK K;refine dR ?_;generalize w8.setCell ⟨w.heap.size+1+1,0,none⟩ (.slice D9 (X.length+1) cp0)=W1 at P1 B1;clear k8 f8 dY bJ f_ Ll abk Ac G_ r7 eY jk aV La aW bH gu Ag qW1 lU z0 z1 z2 zf d_ hNb;have gs1:=P1.bz;obtain⟨z0,z1,z2,zf⟩:=Zb P1.x0 (Zb P1.x1 (Zb P1.x2 P1.fx));go_wp2_with (first|(at_builtin;refine Iw rfl (.tmp 190) (.tmp 192) rfl (w.heap.size+1+1+1) _ _ _ _ _ (by simp) rfl rfl P1.r1 (by first|omega|(simp;omega)) (by first|omega|(simp;omega)) ?_;intro u1 W2 p1 p2 p3;obtain⟨QJ,QK,rfl⟩:=p1.shape (X.length+1) (by simp);have P2:=(P1.keep (aH _ _)).app1 p2 p1 p3;obtain⟨k0,k1,k2,kf,ks⟩:=P1.Jg p2 (row_ne P1.r1 P1.lt);(try simp only[MF]at ks);have B2:=Jf (j:=1) (u:=Value.slice QJ (X.length+1) QK) B1 (Zj _) (by omega) (by first|omega|(simp;omega)) P1.r1 p2;clear p1 p2 p3)|(at_builtin;refine Iw rfl (.tmp 196) (.tmp 198) rfl (w.heap.size+1+1+1) _ _ _ _ _ (by simp) rfl rfl P2.r2 (by first|omega|(simp;omega)) (by first|omega|(simp;omega)) ?_;intro u2 W3 p1 p2 p3;obtain⟨QL,cp2,rfl⟩:=p1.shape (X.length+1) (by simp);have P3:=(P2.keep (aH _ _)).RU p2 p1 p3;obtain⟨l0,l1,l2,lf,ls⟩:=P2.Jg p2 (row_ne P2.r2 P2.lt);(try simp only[MF]at ls);have B3:=Jf (j:=2) (u:=Value.slice QL (X.length+1) cp2) B2 (Zj _) (by omega) (by first|omega|(simp;omega)) P2.r2 p2;clear p1 p2 p3))
            go_roundw
            case rel=>exact⟨_,_,_,_,_,by simp;omega,by simp,hst.push B3 P3 (akw _) HG acj ⟨sa1,sa2,sb3,sb4⟩ (Ux.out _)⟩
            case measure=>simp[intOf];omega
          ·
           as_aux_lemma =>
            have HT:=HG2.out (by unfold og;rw[ZE Lh,ZH D_]);have gjo:(ta.2 != tb.1)=true:=by simp[D_]
            clear Lh D_ mQ;go_wp2_with (first|(go_at_call 115;refine(Dz ns[X.length] _).mono ?_;rintro e w2⟨rfl,hb2⟩;rw[Dl.out];obtain⟨hc2,hf2,hs2⟩:=n_ hb2;have gQ:=(gZ.keep ((Zl _ _).alloc (Zj _) _)).keep hb2;simp only[Zn]at hs2;have hl2:wr.heap.size<w2.heap.size:=(by omega);have dF:Below wr.heap.size wr w2:=((Zl _ _).alloc (Zj _) _).trans (hb2.mono (by simp));have fM:Below (w.heap.size+1+1) wr w2:=((Zl _ _).alloc (by omega) _).trans (hb2.mono (by simp;omega));obtain⟨y0,y1,y2,yf⟩:=Zb gQ.x0 (Zb gQ.x1 (Zb gQ.x2 gQ.fx));clear hb2;have t0:=(Ys fM (p:=⟨w.heap.size+1,0,none⟩) (by simp)).trans yx;have t1:=(Ys fM (p:=⟨w.heap.size+1,1,none⟩) (by simp)).trans rQ;have t2:=(Ys fM (p:=⟨w.heap.size+1,2,none⟩) (by simp)).trans rX;have tf:∀j,w2.frozen? ⟨w.heap.size+1,j,none⟩=false:=λj=>(Xw fM (p:=⟨w.heap.size+1,j,none⟩) (by simp)).trans (iP j)))
            obtain⟨⟨Uy,Uz⟩,Ji,UA⟩:=ET.out;have qxb:=gQ.bz;have q0:=aK dF f0;have q1:=aK dF f1;have q2:=aK dF i0';have q3:=aK dF i1';have q4:=aK dF o0';have q5:=aK dF o1';have qz0:=cell_lt q0;have qz1:=cell_lt q2;have qz2:=cell_lt q4;refine h_ (C:=aC (dD) _) 2 [0,1,2,3,4,5,6,7,8,9,10,11,12,13,14,15,16,17,18,19,20,21,22,23] (by kernel_rfl) (by kernel_rfl) (aC.aJ _ _) (aC.refl _ _) ?_;iterate 24 (apply dh rfl rfl rfl;(focus intro u hc' hf';go_simp<;>rfl);intro K hK;go_simp;apply hK;clear hK K)
            refine dR ?_;go_wp2;refine h_ (C:=aC (dD) _) 2 [0,1,2,3,4,5,6,7,8,9,10] (by kernel_rfl) (by kernel_rfl) (aC.aJ _ _) (aC.refl _ _) ?_;iterate 11 (apply dh rfl rfl rfl;(focus intro u hc' hf';(try simp only[Zo]at hc' hf');go_simp<;>rfl);intro K hK;go_simp;apply hK;clear hK K)
            refine dR ?_;go_wp2
            (refine Zt (v:=.tuple #[.agg #[.slice (some ⟨G0,0,none⟩) X.length b0,.slice (some ⟨G1,0,none⟩) X.length b1,.slice (some ⟨G2,0,none⟩) X.length b2],.bool false]) (by simp[results,Tryz.results144,go_sem,t0,t1,t2]) rfl ⟨_,_,_,_,_,_,_,_,_,by rw[HT.out];rfl,?_,by rw[HT.out];simp⟩;exact(((aI.trans (fM.drew.drew.mono (by omega))).setCell (by simp) _).setCell (by simp) _).setCell (by simp) _)
         ·have gk2:(ns[X.length].kind==15)=false:=by simpa using gk
          have Lh:¬ns[X.length].kind=15:=by simpa using gk
          by_cases D_:ta.1+tb.1<=12/\ta.2+tb.2<=12
          ·
           as_aux_lemma =>
            have HG:=HG1.out (ta.1+tb.1,ta.2+tb.2) (by unfold og;rw[ZH Lh,ZE D_]);have gb1:¬(12:Int)<ta.1+tb.1:=by omega
            have gb2:¬(12:Int)<ta.2+tb.2:=by omega
            have hj1:=D_.1;have gV:=D_.2;clear Lh D_ mQ;go_wp2_with (first|(go_at_call 115;refine(Dz ns[X.length] _).mono ?_;rintro e w2⟨rfl,hb2⟩;rw[Dl.out];obtain⟨hc2,hf2,hs2⟩:=n_ hb2;have gQ:=(gZ.keep ((Zl _ _).alloc (Zj _) _)).keep hb2;simp only[Zn]at hs2;have hl2:wr.heap.size<w2.heap.size:=(by omega);have dF:Below wr.heap.size wr w2:=((Zl _ _).alloc (Zj _) _).trans (hb2.mono (by simp));have fM:Below (w.heap.size+1+1) wr w2:=((Zl _ _).alloc (by omega) _).trans (hb2.mono (by simp;omega));obtain⟨y0,y1,y2,yf⟩:=Zb gQ.x0 (Zb gQ.x1 (Zb gQ.x2 gQ.fx));clear hb2;have t0:=(Ys fM (p:=⟨w.heap.size+1,0,none⟩) (by simp)).trans yx;have t1:=(Ys fM (p:=⟨w.heap.size+1,1,none⟩) (by simp)).trans rQ;have t2:=(Ys fM (p:=⟨w.heap.size+1,2,none⟩) (by simp)).trans rX;have tf:∀j,w2.frozen? ⟨w.heap.size+1,j,none⟩=false:=λj=>(Xw fM (p:=⟨w.heap.size+1,j,none⟩) (by simp)).trans (iP j)))
            obtain⟨⟨Uy,Uz⟩,Ji,UA⟩:=ET.out;have qxb:=gQ.bz;have q0:=aK dF f0;have q1:=aK dF f1;have q2:=aK dF i0';have q3:=aK dF i1';have q4:=aK dF o0';have q5:=aK dF o1';have qz0:=cell_lt q0;have qz1:=cell_lt q2;have qz2:=cell_lt q4;refine h_ (C:=aC (dD) _) 2 [0,1,2,3,4,5,6,7,8,9,10,11,12,13,14,15,16,17,18,19,20,21,22,23] (by kernel_rfl) (by kernel_rfl) (aC.aJ _ _) (aC.refl _ _) ?_;iterate 24 (apply dh rfl rfl rfl;(focus intro u hc' hf';go_simp<;>rfl);intro K hK;go_simp;apply hK;clear hK K)
            refine dR ?_;go_wp2;generalize Lj:w2.drew=WW;have lU:uq WW (w.heap.size+1+1+1) (w.heap.size+1+1) (Value.slice (some ⟨G0,0,none⟩) X.length b0) (Value.slice (some ⟨G1,0,none⟩) X.length b1) (Value.slice (some ⟨G2,0,none⟩) X.length b2) (X.map λp=>(p.1:Int)) (X.map λp=>p.2.1) (X.map λp=>p.2.2):=by
             rw[<-Lj];exact gQ.keep (Zl _ _).drew
            have Ag:Below (w.heap.size+1+1) wr WW:=by rw[<-Lj];exact fM.drew
            have qW1:WW.cell? ⟨G0,f-1,none⟩=some (.int .i64 (g:Int)):=by rw[<-Lj];exact q1
            clear Lj;have xbz:w.heap.size+1+1<WW.heap.size:=lU.bz;have xG:¬w.heap.size+1+1=G0:=λe=>row_ne lU.r0 lU.lt (by rw[<-e];rfl);have QM:=cell_lt qW1;obtain⟨z0,z1,z2,zf⟩:=Zb lU.x0 (Zb lU.x1 (Zb lU.x2 lU.fx));have asg:f-1<X.length:=by omega
            refine yh (C:=xC WW.drew G0 X.length) (N:=WW.drew.heap.size) 3 [0,1,2,3,4,5,6,7,8,9] [10] (by kernel_rfl) (by kernel_rfl) (xC.aJ _ _ _) (xC.refl _ _ _ (by simpa using QM)) ?_;iterate 7
             refine Ir rfl rfl rfl (λK hK=>?_);apply Zq;refine⟨λw' hw'=>?_,?_⟩
             ·obtain⟨hc',hf'⟩:=hw'.1.cell;have eH:=hw'.2.1
              try simp only[Zo]at hc' hf' eH
              go_simp;rfl
             go_simp;refine hK _ _ _ ?_;clear hK K
            refine ku rfl rfl rfl (xC.aJ _ _ _) (xC.refl _ _ _ (by simpa using QM)) (λb=>.slice (some ⟨b,0,none⟩) 1 1) (λK hK=>?_);apply Zq;refine⟨λw' hw'=>?_,λbb w5 gu bH aW hNb d_=>?_⟩
            ·go_simp;rfl
            go_simp;refine hK _ _ _ ?_;clear hK K;refine ako rfl rfl rfl (xC.aJ _ _ _) gu (.tmp 180) (.tmp 186) 23 rfl (w.heap.size+1+1+1) 3 i0 (.int .i64 0) 1 8 Tryz.underlying23 hi hz0 hz1 hz2 rfl (by decide) (.slice (some ⟨G0,0,none⟩) X.length b0) X.length ((X.map λp=>(p.1:Int)).flatMap gU) rfl (λk hk=>.inl (by simp[Value.ownBlock]at hk;subst hk;simpa using QM)) ⟨bb,0,none⟩ 1 1 [.int .i64 (g:Int)] rfl rfl (by intro u hu;simp at hu;subst hu;rfl) (by unfold maxLen;omega) (by omega) (by have:=bH.size;simp at this;omega) ?_ ?_ ?_
            ·intro w6 jk aV;have eY:Below WW.heap.size WW w6:=(Zl WW.heap.size WW).drew.trans ((bH.mono (by simp)).trans (aV.mono (by have:=bH.size;simpa using this)));have r6:=lU.r0.keep eY;unfold Rw at r6;rw[ZG]at r6;obtain⟨m0,_,_⟩:=made_cell ((aV.block bb (made_cell aW).2.2).trans aW);refine⟨r6,λj u hj=>?_⟩
             match j,hj with
             | 0,hj=>simp at hj;subst hj;simp[Addr.add,m0]
            ·intro w6 w7 v' jk aV G_ Ac Ll;have eY:Below WW.heap.size WW w6:=(Zl WW.heap.size WW).drew.trans ((bH.mono (by simp)).trans (aV.mono (by have:=bH.size;simpa using this)));have r6:=lU.r0.keep eY;unfold Rw at r6;rw[ZG]at r6;exact jk.append rfl r6 (by omega) G_ (by omega) Ac Ll
            intro K hK w6 w7 v' jk aV G_ Ac f_ Ll;have eY:Below WW.heap.size WW w6:=(Zl WW.heap.size WW).drew.trans ((bH.mono (by simp)).trans (aV.mono (by have:=bH.size;simpa using this)));obtain⟨D9,cp0,rfl⟩:=acf G_;have r7:Rw w7 (w.heap.size+1+1+1) (.slice D9 (X.length+1) cp0) ((X.map λp=>(p.1:Int))++[(g:Int)]):=by
             unfold Rw;rw[Zk,ZG,ZL];exact G_
            have abk:=Ll.imp id (λh=>h.1);go_simp;refine hK _ _ _ ?_;clear hK K;iterate 1
             refine Ir rfl rfl rfl (λK hK=>?_);apply Zq;refine⟨λw' hw'=>?_,?_⟩
             ·obtain⟨hc',hf'⟩:=hw'.1.cell;have eH:=hw'.2.1
              try simp only[Zo]at hc' hf' eH
              go_simp;rfl
             go_simp;refine hK _ _ _ ?_;clear hK K
            refine dR ?_;have La:w.heap.size+1+1<w7.heap.size:=by have h1:=f_.1.size;simp at h1;omega
            refine⟨aC (λj=>j=w.heap.size+1+1) w7,w7.heap.size,aC.aJ _ _,aC.refl _ _,?_⟩;refine jd rfl rfl rfl (aC.aJ _ _) (aC.refl _ _) (λK hK=>?_);intro w8 dY bJ;have P1:=akr lU eY Ac r7 abk bJ;have B1:=aks (j:=0) (u:=Value.slice D9 (X.length+1) cp0) Ag (by omega) (Zj _) (by omega) eY lU.r0 Ac bJ;have c8:=(RS (o:=0) (afV Ac bJ) (lU.keep eY).bz (row_ne lU.r0 lU.lt))
            have k8:=c8.1.trans (lU.keep eY).x0;have f8:=c8.2.trans ((lU.keep eY).fx 0);clear c8;refine⟨w8.setCell ⟨w.heap.size+1+1,0,none⟩ (.slice D9 (X.length+1) cp0),?_,⟨bF dY (.inr rfl) _,by simp,λj hj _ _=>by rw[Zm _ _ _ _ (λh=>by simp at h;omega)]⟩,?_⟩
            ·go_simp
            go_simp;refine hK _ _ _ ?_;clear hK K;refine dR ?_;generalize w8.setCell ⟨w.heap.size+1+1,0,none⟩ (.slice D9 (X.length+1) cp0)=W1 at P1 B1;clear k8 f8 dY bJ f_ Ll abk Ac G_ r7 eY jk aV La aW bH gu Ag qW1 lU z0 z1 z2 zf d_ hNb;have gs1:=P1.bz;obtain⟨z0,z1,z2,zf⟩:=Zb P1.x0 (Zb P1.x1 (Zb P1.x2 P1.fx));go_wp2_with (first|(at_builtin;refine Iw rfl (.tmp 190) (.tmp 192) rfl (w.heap.size+1+1+1) _ _ _ _ _ (by simp) rfl rfl P1.r1 (by first|omega|(simp;omega)) (by first|omega|(simp;omega)) ?_;intro u1 W2 p1 p2 p3;obtain⟨QJ,QK,rfl⟩:=p1.shape (X.length+1) (by simp);have P2:=(P1.keep (aH _ _)).app1 p2 p1 p3;obtain⟨k0,k1,k2,kf,ks⟩:=P1.Jg p2 (row_ne P1.r1 P1.lt);(try simp only[MF]at ks);have B2:=Jf (j:=1) (u:=Value.slice QJ (X.length+1) QK) B1 (Zj _) (by omega) (by first|omega|(simp;omega)) P1.r1 p2;clear p1 p2 p3)|(at_builtin;refine Iw rfl (.tmp 196) (.tmp 198) rfl (w.heap.size+1+1+1) _ _ _ _ _ (by simp) rfl rfl P2.r2 (by first|omega|(simp;omega)) (by first|omega|(simp;omega)) ?_;intro u2 W3 p1 p2 p3;obtain⟨QL,cp2,rfl⟩:=p1.shape (X.length+1) (by simp);have P3:=(P2.keep (aH _ _)).RU p2 p1 p3;obtain⟨l0,l1,l2,lf,ls⟩:=P2.Jg p2 (row_ne P2.r2 P2.lt);(try simp only[MF]at ls);have B3:=Jf (j:=2) (u:=Value.slice QL (X.length+1) cp2) B2 (Zj _) (by omega) (by first|omega|(simp;omega)) P2.r2 p2;clear p1 p2 p3))
            go_roundw
            case rel=>exact⟨_,_,_,_,_,by simp;omega,by simp,hst.push B3 P3 (akw _) HG acj ⟨by omega,by omega,by omega,by omega⟩ (Ux.out _)⟩
            case measure=>simp[intOf];omega
          ·
           as_aux_lemma =>
            have HT:=HG2.out (by unfold og;rw[ZH Lh,ZH D_]);have hjj:(12:Int)<ta.1+tb.1\/(ta.1+tb.1<=12/\(12:Int)<ta.2+tb.2):=by omega
            clear Lh D_ mQ;rcases hjj with gb1|⟨gb1,gb2⟩
            all_goals
             go_wp2_with (first|(go_at_call 115;refine(Dz ns[X.length] _).mono ?_;rintro e w2⟨rfl,hb2⟩;rw[Dl.out];obtain⟨hc2,hf2,hs2⟩:=n_ hb2;have gQ:=(gZ.keep ((Zl _ _).alloc (Zj _) _)).keep hb2;simp only[Zn]at hs2;have hl2:wr.heap.size<w2.heap.size:=(by omega);have dF:Below wr.heap.size wr w2:=((Zl _ _).alloc (Zj _) _).trans (hb2.mono (by simp));have fM:Below (w.heap.size+1+1) wr w2:=((Zl _ _).alloc (by omega) _).trans (hb2.mono (by simp;omega));obtain⟨y0,y1,y2,yf⟩:=Zb gQ.x0 (Zb gQ.x1 (Zb gQ.x2 gQ.fx));clear hb2;have t0:=(Ys fM (p:=⟨w.heap.size+1,0,none⟩) (by simp)).trans yx;have t1:=(Ys fM (p:=⟨w.heap.size+1,1,none⟩) (by simp)).trans rQ;have t2:=(Ys fM (p:=⟨w.heap.size+1,2,none⟩) (by simp)).trans rX;have tf:∀j,w2.frozen? ⟨w.heap.size+1,j,none⟩=false:=λj=>(Xw fM (p:=⟨w.heap.size+1,j,none⟩) (by simp)).trans (iP j)))
             obtain⟨⟨Uy,Uz⟩,Ji,UA⟩:=ET.out;have qxb:=gQ.bz;have q0:=aK dF f0;have q1:=aK dF f1;have q2:=aK dF i0';have q3:=aK dF i1';have q4:=aK dF o0';have q5:=aK dF o1';have qz0:=cell_lt q0;have qz1:=cell_lt q2;have qz2:=cell_lt q4;refine h_ (C:=aC (dD) _) 2 [0,1,2,3,4,5,6,7,8,9,10,11,12,13,14,15,16,17,18,19,20,21,22,23] (by kernel_rfl) (by kernel_rfl) (aC.aJ _ _) (aC.refl _ _) ?_;iterate 24 (apply dh rfl rfl rfl;(focus intro u hc' hf';go_simp<;>rfl);intro K hK;go_simp;apply hK;clear hK K)
             refine dR ?_;go_wp2
             (refine Zt (v:=.tuple #[.agg #[.slice (some ⟨G0,0,none⟩) X.length b0,.slice (some ⟨G1,0,none⟩) X.length b1,.slice (some ⟨G2,0,none⟩) X.length b2],.bool false]) (by simp[results,Tryz.results144,go_sem,t0,t1,t2]) rfl ⟨_,_,_,_,_,_,_,_,_,by rw[HT.out];rfl,?_,by rw[HT.out];simp⟩;exact(((aI.trans (fM.drew.mono (by omega))).setCell (by simp) _).setCell (by simp) _).setCell (by simp) _)
       ·
        as_aux_lemma =>
         have HT:Hid (bP (bI L) ns=none):=(show _=_ by
          unfold bP;rw[ZE hl,hst.go.out,HD.out,agP mQ pV])
         have aa7:(!ns[X.length].name.toList.isEmpty)=true\/((!ns[X.length].name.toList.isEmpty)=false/\(ns[X.length].value != 0)=true):=by
          by_cases CO:ns[X.length].name=ByteArray.empty
          ·refine .inr ⟨by have:=(Yq _).2 CO;simp[this],?_⟩;simpa using λh=>pV ⟨h,CO⟩
          ·refine .inl ?_;have:¬ns[X.length].name.toList=[]:=λh=>CO ((Yq _).1 h);simpa using this
         clear pV mQ BF qh;rcases mX with gk|⟨gk,Pj⟩<;>rcases aa7 with gn|⟨gn,gv⟩
         all_goals
          go_wp2_with (first|(go_at_call 115;refine(Dz ns[X.length] _).mono ?_;rintro e w2⟨rfl,hb2⟩;rw[Dl.out];obtain⟨hc2,hf2,hs2⟩:=n_ hb2;have gQ:=(gZ.keep ((Zl _ _).alloc (Zj _) _)).keep hb2;simp only[Zn]at hs2;have hl2:wr.heap.size<w2.heap.size:=(by omega);have dF:Below wr.heap.size wr w2:=((Zl _ _).alloc (Zj _) _).trans (hb2.mono (by simp));have fM:Below (w.heap.size+1+1) wr w2:=((Zl _ _).alloc (by omega) _).trans (hb2.mono (by simp;omega));obtain⟨y0,y1,y2,yf⟩:=Zb gQ.x0 (Zb gQ.x1 (Zb gQ.x2 gQ.fx));clear hb2;have t0:=(Ys fM (p:=⟨w.heap.size+1,0,none⟩) (by simp)).trans yx;have t1:=(Ys fM (p:=⟨w.heap.size+1,1,none⟩) (by simp)).trans rQ;have t2:=(Ys fM (p:=⟨w.heap.size+1,2,none⟩) (by simp)).trans rX;have tf:∀j,w2.frozen? ⟨w.heap.size+1,j,none⟩=false:=λj=>(Xw fM (p:=⟨w.heap.size+1,j,none⟩) (by simp)).trans (iP j)))
          (refine Zt (v:=.tuple #[.agg #[.slice a0 X.length b0,.slice a1 X.length b1,.slice a2 X.length b2],.bool false]) (by simp[results,Tryz.results144,go_sem,t0,t1,t2]) rfl ⟨_,_,_,_,_,_,_,_,_,by rw[HT.out];rfl,?_,by rw[HT.out];simp⟩;exact(((aI.trans (fM.mono (by omega))).setCell (by simp) _).setCell (by simp) _).setCell (by simp) _)
      ·have HT:Hid (bP (bI L) ns=none):=(show _=_ by
        unfold bP;rw[ZE hl,hst.go.out,HD.out,abH mQ (by unfold bI;rw[ZH BF,ZH qh])])
       have gk:(ns[X.length].kind != 15)=true:=by simp;omega
       have Pj:(ns[X.length].kind != 16)=true:=by simp;omega
       clear mQ BF qh;go_wp2_with (first|(go_at_call 115;refine(Dz ns[X.length] _).mono ?_;rintro e w2⟨rfl,hb2⟩;rw[Dl.out];obtain⟨hc2,hf2,hs2⟩:=n_ hb2;have gQ:=(gZ.keep ((Zl _ _).alloc (Zj _) _)).keep hb2;simp only[Zn]at hs2;have hl2:wr.heap.size<w2.heap.size:=(by omega);have dF:Below wr.heap.size wr w2:=((Zl _ _).alloc (Zj _) _).trans (hb2.mono (by simp));have fM:Below (w.heap.size+1+1) wr w2:=((Zl _ _).alloc (by omega) _).trans (hb2.mono (by simp;omega));obtain⟨y0,y1,y2,yf⟩:=Zb gQ.x0 (Zb gQ.x1 (Zb gQ.x2 gQ.fx));clear hb2;have t0:=(Ys fM (p:=⟨w.heap.size+1,0,none⟩) (by simp)).trans yx;have t1:=(Ys fM (p:=⟨w.heap.size+1,1,none⟩) (by simp)).trans rQ;have t2:=(Ys fM (p:=⟨w.heap.size+1,2,none⟩) (by simp)).trans rX;have tf:∀j,w2.frozen? ⟨w.heap.size+1,j,none⟩=false:=λj=>(Xw fM (p:=⟨w.heap.size+1,j,none⟩) (by simp)).trans (iP j)))
       (refine Zt (v:=.tuple #[.agg #[.slice a0 X.length b0,.slice a1 X.length b1,.slice a2 X.length b2],.bool false]) (by simp[results,Tryz.results144,go_sem,t0,t1,t2]) rfl ⟨_,_,_,_,_,_,_,_,_,by rw[HT.out];rfl,?_,by rw[HT.out];simp⟩;exact(((aI.trans (fM.mono (by omega))).setCell (by simp) _).setCell (by simp) _).setCell (by simp) _)
   ·
    as_aux_lemma =>
     have yU:X.length=ns.length:=by omega
     have hgo:=hst.go.out;rw[yU,WJ]at hgo;have akx:eX (bI L) ns []=some st:=hgo;obtain⟨G0,Oc⟩:=gZ.r0.some (by simp;omega);subst Oc;obtain⟨fl,jS,afW⟩:∃fl:Nat,(∃t,X[X.length-1]?=some (fl,t))/\((((fl:Int)==0)=true/\∃t,bP (bI L) ns=some t/\Hid (X[X.length-1]?=some (0,t)))\/(((fl:Int)==0)=false/\bP (bI L) ns=none)):=by
      match st,hst.ch,akx with
      | [],h,_=>have:=chain_nil h;subst this;simp at yU;omega
      | [tb],h,e=>exact⟨0,⟨tb,(afU h).2⟩,.inl ⟨rfl,tb,by unfold bP;rw[ZE hl,e],show Hid _ from(afU h).2⟩⟩
      | tb::ta::r,h,e =>
       obtain⟨f,g,rF,hf1,_⟩:=akn h;exact⟨f,⟨tb,rF⟩,.inr ⟨by simp;omega,by unfold bP;rw[ZE hl,e]⟩⟩
     obtain⟨tl,rF⟩:=jS;have f0:wr.cell? ⟨G0,ns.length-1,none⟩=some (.int .i64 (fl:Int)):=by obtain⟨nR,vU⟩:=G9 rF (λp:Nat×W2=>(p.1:Int));rw[<-yU,gZ.r0.cell _ nR,vU]
     have hGz:=cell_lt f0;have hGB:w.heap.size+1+1+1<=G0:=(Zh gZ.r0 G0 rfl).1;have gi1:(1:Int)<=ns.length:=by omega
     have gi2:(ns.length:Int)-1<X.length:=by omega
     have Ji:((ns.length:Int)-1).toNat=ns.length-1:=by omega
     have et0:IntKind.i64.wrap ((ns.length:Int)-1)=(ns.length:Int)-1:=Z8 _ (by omega);have gl:¬(X.length:Int)<ns.length:=by omega
     have ETT:=Za (Zb et0 Ji);clear et0 Ji;have nT1:¬w.heap.size=w.heap.size+1:=by omega
     have nT2:¬w.heap.size+1+1=w.heap.size+1:=by omega
     have nT3:¬G0=w.heap.size+1:=by omega
     have sz1:w.heap.size<wr.heap.size:=by omega
     have ash:=Za hst.fr;have HK:=Za yU;have HX:=Za rF;clear yU hgo akx rF;have fin:∀(W:World),Below (w.heap.size+1+1) wr W->Below wr.heap.size wr W->uq W (w.heap.size+1+1+1) (w.heap.size+1+1) (Value.slice (some ⟨G0,0,none⟩) X.length b0) (Value.slice a1 X.length b1) (Value.slice a2 X.length b2) (X.map λp=>(p.1:Int)) (X.map λp=>p.2.1) (X.map λp=>p.2.2):=λW _ h=>gZ.keep h;rcases afW with⟨gq,t,HT,hXt⟩|⟨gq,HT⟩
     all_goals
      have D7:=Za HT;clear HT;go_wp2;obtain⟨et0,Ji⟩:=ETT.out;refine h_ (C:=aC ((λj=>j=w.heap.size+1)) _) 2 [0,1,2,3,4,5,6,7,8,9,10,11] (by kernel_rfl) (by kernel_rfl) (aC.aJ _ _) (aC.refl _ _) ?_;iterate 10 (apply i_ rfl rfl rfl;(focus intro u hc' hf';(try simp only[Zo]at hc' hf');go_simp<;>rfl);intro K hK;go_simp;apply hK;clear hK K)
      refine jd rfl rfl rfl (aC.aJ _ _) (aC.refl _ _) (λK hK=>?_);intro w8 dY bJ;have UD:Below wr.heap.size wr w8:=(Zl wr.heap.size wr).drew.trans (bJ.mono (by simp));have k0:=aK UD yx;have k1:=aK UD rQ;have k2:=aK UD rX;have kf:∀j,w8.frozen? ⟨w.heap.size+1,j,none⟩=false:=λj=>(UD.frozen (p:=⟨w.heap.size+1,j,none⟩) (by simp;omega)).trans (iP j);have R8:=gZ.keep UD;refine⟨((w8.setCell ⟨w.heap.size+1,0,none⟩ (.slice (some ⟨G0,0,none⟩) X.length b0)).setCell ⟨w.heap.size+1,1,none⟩ (.slice a1 X.length b1)).setCell ⟨w.heap.size+1,2,none⟩ (.slice a2 X.length b2),?_,⟨bF (bF (bF dY (.inr rfl) _) (.inr rfl) _) (.inr rfl) _,by simp,λj hj _ _=>by rw[Zm _ _ _ _ (λh=>by simp at h hj;omega),Zm _ _ _ _ (λh=>by simp at h hj;omega),Zm _ _ _ _ (λh=>by simp at h hj;omega)]⟩,?_⟩
      ·go_simp
      go_simp;refine hK _ _ _ ?_;clear hK K;refine Ir rfl rfl rfl (λK hK=>?_);apply Zq;refine⟨λw' hw'=>?_,?_⟩
      ·go_simp;rfl
      go_simp;refine hK _ _ _ ?_;clear hK K;refine dR ?_;go_wp2;have tY:Below w.heap.size w (((w8.setCell ⟨w.heap.size+1,0,none⟩ (.slice (some ⟨G0,0,none⟩) X.length b0)).setCell ⟨w.heap.size+1,1,none⟩ (.slice a1 X.length b1)).setCell ⟨w.heap.size+1,2,none⟩ (.slice a2 X.length b2)):=(((aI.trans (UD.mono aI.size)).setCell (by simp) _).setCell (by simp) _).setCell (by simp) _;have q0:=(((R8.r0.other ⟨w.heap.size+1,0,none⟩ (.slice (some ⟨G0,0,none⟩) X.length b0) (by simp)).other ⟨w.heap.size+1,1,none⟩ (.slice a1 X.length b1) (by simp)).other ⟨w.heap.size+1,2,none⟩ (.slice a2 X.length b2) (by simp))
      have q1:=(((R8.r1.other ⟨w.heap.size+1,0,none⟩ (.slice (some ⟨G0,0,none⟩) X.length b0) (by simp)).other ⟨w.heap.size+1,1,none⟩ (.slice a1 X.length b1) (by simp)).other ⟨w.heap.size+1,2,none⟩ (.slice a2 X.length b2) (by simp))
      have q2:=(((R8.r2.other ⟨w.heap.size+1,0,none⟩ (.slice (some ⟨G0,0,none⟩) X.length b0) (by simp)).other ⟨w.heap.size+1,1,none⟩ (.slice a1 X.length b1) (by simp)).other ⟨w.heap.size+1,2,none⟩ (.slice a2 X.length b2) (by simp))
     ·refine Zt (v:=.tuple #[.agg #[.slice (some ⟨G0,0,none⟩) X.length b0,.slice a1 X.length b1,.slice a2 X.length b2],.bool true]) (by simp[results,Tryz.results144,go_sem,k0,k1,k2]) rfl ⟨_,_,_,_,_,_,_,_,_,by rw[D7.out];rfl,tY,λt' ht'=>⟨X,HK.out,?_,FD (by omega) q0,FD (by omega) q1,FD (by omega) q2,ash.out⟩⟩;rw[D7.out]at ht';obtain rfl:=Zy ht';rw[<-HK.out];exact hXt.out
     ·refine Zt (v:=.tuple #[.agg #[.slice (some ⟨G0,0,none⟩) X.length b0,.slice a1 X.length b1,.slice a2 X.length b2],.bool false]) (by simp[results,Tryz.results144,go_sem,k0,k1,k2]) rfl ⟨_,_,_,_,_,_,_,_,_,by rw[D7.out];rfl,tY,by rw[D7.out];simp⟩
 ·have g1:inB ns.length 1 400=false:=by simp[inB];omega
  have HT:=Za (show bP (bI L) ns=none by unfold bP;rw[ZH hl]);go_enter Tryz.func144,Tryz.ntmps144;go_wp2_with (go_at_call 46;refine(sD _ _ _ _).mono ?_;rintro e w1⟨rfl,rfl⟩)
  refine Zt (v:=.tuple #[.agg #[.slice none 0 0,.slice none 0 0,.slice none 0 0],.bool false]) (by simp[results,Tryz.results144,go_sem]) rfl ⟨_,_,_,_,_,_,_,_,_,by rw[HT.out];rfl,?_,by rw[HT.out];simp⟩;exact(((Zl _ _).alloc (Zj _) _).alloc (by simp) _).alloc (by simp;omega) _
theorem aky (v:Value) (L:List Df) (v':Value) (ns:List Nd) (w:World) (hL:OV w v L) (EX:L.length<=1048576) (hLs:∀d∈L,Sm (d.inn,d.out)) (hv:dG w v' ns) (aP:wQ ns) :
  Calls Tryz.prog 144 #[v,.agg #[v']] w (asc L ns w):=by
 refine(akt v L v' ns w hL EX hLs hv aP).mono ?_;rintro e w'⟨a0,n0,c0,a1,n1,c1,a2,n2,c2,h1,h2,h3⟩;refine⟨a0,n0,c0,a1,n1,c1,a2,n2,c2,h1,h2,λt ht=>?_⟩;obtain⟨X,q1,q2,q3,q4,q5,_⟩:=h3 t ht;exact⟨X,q1,q2,q3,q4,q5⟩
end Go.Proofs.YtkhpobekconobaaGreat
