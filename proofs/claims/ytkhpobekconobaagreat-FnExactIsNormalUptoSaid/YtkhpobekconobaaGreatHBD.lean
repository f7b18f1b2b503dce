import Derived.Test.YtkhpobekconobaaGreatHBC
import Derived.Test.YtkhpobekconobaaGreatHAX
set_option linter.all false
set_option maxRecDepth 100000
set_option maxHeartbeats 0
namespace Go.Proofs.YtkhpobekconobaaGreat
open Go.RowKit
def ScT (n:Nat) (t:W2) (w:World) (e:Ending) (w':World):Prop:=∃(a0:Option Addr) (n0 c0 g1 c1 g2 c2:Nat),e=.returned (.tuple #[.agg #[.slice a0 n0 c0,.slice (some ⟨g1,0,none⟩) n c1,.slice (some ⟨g2,0,none⟩) n c2],.bool true]) /\
 w'.cell? ⟨g1,n-1,none⟩=some (.int .i64 t.1)/\w'.cell? ⟨g2,n-1,none⟩=some (.int .i64 t.2)/\w.heap.size<=g1/\w.heap.size<=g2/\Below w.heap.size w w'
theorem asA (v:Value) (ns:List Nd) (t:W2) (w:World) (hv:dG w v ns) (aP:wQ ns) (ht:bP (bI []) ns=some t) :
  Calls Tryz.prog 144 #[.slice none 0 0,.agg #[v]] w (ScT ns.length t w):=by
 refine(aky (.slice none 0 0) [] v ns w (afX w) (by simp) (by simp) hv aP).mono ?_;rintro e w'⟨a0,n0,c0,a1,n1,c1,a2,n2,c2,rfl,wu,hX⟩;obtain⟨X,rF,hXt,r0,r1,r2⟩:=hX t ht;have iH:1<=ns.length:=by unfold bP at ht;split at ht;omega;cases ht
 obtain⟨g1,p1,he1,_,_,hg1,_⟩:=aar r1 (by simp;omega);obtain⟨g2,p2,RP,_,_,hg2,_⟩:=aar r2 (by simp;omega);simp only[Zx,ZG]at he1 RP;obtain⟨rfl,rfl,rfl⟩:=he1;obtain⟨rfl,rfl,rfl⟩:=RP;obtain⟨q1,e1⟩:=G9 hXt (λp:Nat×W2=>p.2.1);obtain⟨q2,e2⟩:=G9 hXt (λp:Nat×W2=>p.2.2);have f1:=r1.cell _ q1;have f2:=r2.cell _ q2;rw[e1]at f1;rw[e2]at f2;rw[ht,rF];exact⟨a0,n0,c0,g1,_,g2,_,rfl,f1,f2,hg1,hg2,wu⟩
theorem asB (v:Value) (ns:List Nd) (t:W2) (w:World) (hv:dG w v ns) (aP:wQ ns) (ht:bP (bI []) ns=some t) :
  Calls Tryz.prog 102 #[.agg #[v]] w (ScT ns.length t w):=by
 have hsc:=λ(w1:World) (h1:dG w1 v ns)=>asA v ns t w1 h1 aP ht;have uQ:=Za hsc;clear hsc ht aP;obtain⟨av,cap,rfl⟩:=hv.slice;have hB:Below w.heap.size w ((w.alloc (.cells #[.slice av ns.length cap] 64)).alloc (.cells #[.slice none 0 0,.slice none 0 0,.slice none 0 0] 163)):=((Zl _ _).alloc (Zj _) _).alloc (by simp) _;go_enter Tryz.func102,Tryz.ntmps102;go_wp2_with (go_at_call 144;refine(uQ.out _ (hv.keep hB)).mono ?_;rintro e w2⟨a0,n0,c0,g1,c1,g2,c2,rfl,hc2,hd2,hg2,hh2,hb2⟩;have hs2:=hb2.size;simp only[Zn]at hs2 hg2 hh2;have q0:=hb2.cell (p:=⟨w.heap.size+1,0,none⟩) (by simp);have q1:=hb2.cell (p:=⟨w.heap.size+1,1,none⟩) (by simp);have q3:=hb2.cell (p:=⟨w.heap.size+1,2,none⟩) (by simp);have q4:∀k,w2.frozen? ⟨w.heap.size+1,k,none⟩=_:=λk=>hb2.frozen (p:=⟨w.heap.size+1,k,none⟩) (by simp);simp[go_sem]at q0 q1 q3 q4;have hz2:w.heap.size+1<w2.heap.size:=(by omega))
 refine Zt (v:=.tuple #[.agg #[.slice a0 n0 c0,.slice (some ⟨g1,0,none⟩) ns.length c1,.slice (some ⟨g2,0,none⟩) ns.length c2],.bool true]) (by simp[results,Tryz.results102,go_sem,q0,q1,q3,hz2]) rfl ⟨a0,n0,c0,g1,c1,g2,c2,rfl,?_,?_,by omega,by omega,?_⟩
 ·have:¬g1=w.heap.size+1:=by omega
  go_simp
 ·have:¬g2=w.heap.size+1:=by omega
  go_simp
 ·exact((((hB.trans (hb2.mono (by simp;omega))).setCell (by simp) _).setCell (by simp) _).setCell (by simp) _)
theorem afY (v:Value) (ns:List Nd) (t:W2) (w:World) (hv:dG w v ns) (aP:wQ ns) (ht:bP (bI []) ns=some t) :
  Calls Tryz.prog 74 #[.agg #[v]] w λe w'=>e=.returned (.tuple #[.int .i64 t.1,.int .i64 t.2,.bool true])/\Below w.heap.size w w':=by
 have hsc:=λ(w1:World) (h1:dG w1 v ns)=>asB v ns t w1 h1 aP ht;have hlen:=Nl ht;have iH:1<=ns.length:=by unfold bP at ht;split at ht;omega;cases ht
 have uQ:=Za hsc;clear hsc ht aP;obtain⟨av,cap,rfl⟩:=hv.slice;have hA:=aH w (.cells #[.slice av ns.length cap] 64);have kT:=Bk.new w 64 #[.slice av ns.length cap];go_enter Tryz.func74,Tryz.ntmps74;go_wp2_with fail
 generalize(w.alloc (.cells #[.slice av ns.length cap] 64))=u0 at *;refine(uQ.out u0 (hv.keep hA)).mono ?_;rintro e u1⟨a0,n0,c0,g1,c1,g2,c2,rfl,f1,f2,hg1,hg2,hb⟩;replace kT:=kT.keep hb;obtain⟨iT,-,zT⟩:=kT.cell;have hB:=hA.trans (hb.mono hA.size);have z1:=cell_lt f1;have z2:=cell_lt f2;have i0:IntKind.i64.wrap ((ns.length:Int)-1)=((ns.length-1:Nat):Int):=by rw[Z8 _ (by omega)];omega
 have i1:((ns.length-1:Nat):Int)<(ns.length:Int):=by omega
 obtain⟨m,hm⟩:∃m,ns.length-1=m:=⟨_,rfl⟩
 rw[hm]at f1 f2 i0 i1;clear hm hA hb kT hv uQ;go_wp2_with fail
 go_quiet (fail)
 go_wp2;go_ret3
 exact⟨rfl,YU (hB.trans ((aH _ _).mono hB.size)) _⟩
theorem akK (v:Value) (ns:List Nd) (t:W2) (w:World) (hv:dG w v ns) (ht:bP (bI []) ns=some t) (hs:∀d∈ns,d.name.size<=1048576) :
  Calls Tryz.prog 126 #[.agg #[v]] w λe w'=>e=.returned (.tuple #[.agg #[.int .i64 t.1,.int .i64 t.2],.bool true])/\Below w.heap.size w w':=by
 have hl:=Nl ht;refine(ah2 v ns w hv (by omega) hs).mono ?_;rintro e w'⟨x,rfl,hx,hb⟩;have h2:bP (jJ []) ns=some t:=by rw[ahS ah3];exact ht
 obtain rfl:=hx t h2;rw[h2];exact⟨rfl,hb⟩
theorem adg {ns:List Nd} {x:W2} (h:bP (bI []) ns=some x):aaF ns=(lS ns).isSome:=by
 obtain⟨t,h1,h2,rfl⟩:=aeL h;rw[ap5 h1 h2];have hg:=Nz t x h1 h2 [] [];rw[ZZ]at hg;unfold lS;rw[hg];cases jU t<;>rfl
structure UH (r:dP) (x y:W2):Prop where
 tl:bP (bI []) r.left=some x
 tr:bP (bI []) r.right=some y
 ln:∀d∈r.left,d.name.size<=1048576
 rn:∀d∈r.right,d.name.size<=1048576
 nm:r.name.size<=1048576
theorem akL {r:dP} {x y:W2} (h:UH r x y) (hh:¬(x=y/\nameB r.name=true)):Dp r=false:=by
 unfold Dp;rw[h.tl,h.tr];by_cases hn:nameB r.name=true
 ·have:¬some x=some y:=λe=>hh ⟨Zy e,hn⟩;rw[YH this];simp
 ·simp only[Bool.not_eq_true]at hn;rw[hn];rfl
theorem afZ {r:dP} {x y:W2} (h:UH r x y) (hx:x=y) (hn:nameB r.name=true):Dp r=((lS r.left).isSome&&(lS r.right).isSome):=by
 unfold Dp;rw[h.tl,h.tr,hx,hn,adg h.tl,adg h.tr];simp
theorem asC (r:dP) (x y:W2) (vl vr:Value) (w:World) (hk:UH r x y) (hl:dG w vl r.left) (hr:dG w vr r.right) :
  Calls Tryz.prog 88 #[.agg #[.string r.name,vl,vr]] w (nH (Dp r) w):=by
 obtain⟨al,cl,rfl⟩:=hl.slice;obtain⟨ar,cr,rfl⟩:=hr.slice;have hA:=aH w (.cells #[.string r.name,.slice al r.left.length cl,.slice ar r.right.length cr] 66);have kI:=Bk.new w 66 #[.string r.name,.slice al r.left.length cl,.slice ar r.right.length cr];have o7:=Za (λu (h:dG u (.slice al r.left.length cl) r.left)=>akK _ r.left x u h hk.tl hk.ln);have QS:=Za (λu (h:dG u (.slice ar r.right.length cr) r.right)=>akK _ r.right y u h hk.tr hk.rn);have HN:=Za (λu=>anG r.name u hk.nm);have Ky:=Za (λu (h:dG u (.slice al r.left.length cl) r.left)=>(adb _ r.left x u h hk.tl).mono (R':=QN _ u) λ_ _ h=>h.q);have IE:=Za (λu (h:dG u (.slice ar r.right.length cr) r.right)=>(adb _ r.right y u h hk.tr).mono (R':=QN _ u) λ_ _ h=>h.q);have lY:=Za (akL hk);have HYE:=Za (afZ hk);have HL:=Za hl;have HR:=Za hr;obtain⟨B,hB⟩:∃B,Dp r=B:=⟨_,rfl⟩
 rw[hB]at lY HYE ⊢;clear hB hk hl hr;go_enter Tryz.func88,Tryz.ntmps88;go_wp2_with fail
 generalize(w.alloc (.cells #[.string r.name,.slice al r.left.length cl,.slice ar r.right.length cr] 66))=u0 at *;refine(o7.out u0 (HL.out.keep hA)).mono ?_;rintro e u1⟨rfl,hb1⟩;have aS:=hA.trans (hb1.mono hA.size);replace kI:=kI.keep hb1;obtain⟨iI,-,zI⟩:=kI.cell;clear hA hb1;go_wp2_with fail
 have k3:=Bk.new u1 189 #[.int .i64 x.1,.int .i64 x.2];have dU:=aH u1 (.cells #[.int .i64 x.1,.int .i64 x.2] 189);have aZ:=aS.trans (dU.mono aS.size);replace kI:=kI.keep dU;clear iI zI dU aS;generalize(u1.alloc (.cells #[.int .i64 x.1,.int .i64 x.2] 189))=u2 at *;generalize u1.heap.size=b3 at *;refine(QS.out u2 (HR.out.keep aZ)).mono ?_;rintro e u3⟨rfl,hb3⟩;have fU:=aZ.trans (hb3.mono aZ.size);replace kI:=kI.keep hb3;replace k3:=k3.keep hb3;obtain⟨iI,-,zI⟩:=kI.cell;obtain⟨i3,-,z3⟩:=k3.cell;clear hb3 aZ;obtain⟨p,q⟩:=x;obtain⟨p',q'⟩:=y;dsimp only at *;by_cases wP:p=p'/\q=q'
 ·obtain⟨rfl,rfl⟩:=wP;have dV:=aH u3 (.cells #[.int .i64 p,.int .i64 q] 189);have dZ:=fU.trans (dV.mono fU.size);cases hn:nameB r.name with
  | false =>
   have HB:=Za (lY.out (λh=>by rw[hn]at h;cases h.2));have MW:=Za (λu=>(HN.out u).mono (R':=nH false u) (by rw[hn];exact λ_ _ h=>h));clear hn HN;go_wp2_with fail
   refine(MW.out _).mono ?_;rintro e u4⟨rfl,hb4⟩;go_wp2;go_ret;exact⟨by rw[HB.out];rfl,dZ.trans (hb4.mono dZ.size)⟩
  | true =>
   have HB:=Za (HYE.out rfl hn);have MW:=Za (λu=>(HN.out u).mono (R':=nH true u) (by rw[hn];exact λ_ _ h=>h));clear hn HN;replace kI:=kI.keep dV;go_wp2_with fail
   clear iI zI i3 z3 k3;generalize(u3.alloc (.cells #[.int .i64 p,.int .i64 q] 189))=u5 at *;refine(MW.out _).mono ?_;rintro e u6⟨rfl,aV⟩;have eY:=dZ.trans (aV.mono dZ.size);replace kI:=kI.keep aV;obtain⟨iI,-,zI⟩:=kI.cell;clear dZ dV aV fU;go_wp2_with fail
   refine(Ky.out u6 (HL.out.keep eY)).mono ?_;rintro e u7⟨x1,y1,x2,y2,x3,y3,rfl,-,dA⟩;have iy:=eY.trans (dA.mono eY.size);replace kI:=kI.keep dA;clear iI zI dA eY;obtain⟨iI,-,zI⟩:=kI.cell;go_wp2_with fail
   refine(IE.out u7 (HR.out.keep iy)).mono ?_;rintro e u8⟨s1,t1,s2,t2,s3,t3,rfl,-,bJ⟩;have sU:=iy.trans (bJ.mono iy.size);clear iI zI bJ iy kI;have HB2:=HB.out;obtain⟨a,ha⟩:∃a,(lS r.left).isSome=a:=⟨_,rfl⟩
   obtain⟨b,hb⟩:∃b,(lS r.right).isSome=b:=⟨_,rfl⟩
   rw[ha,hb]at HB2 ⊢;have HB3:=Za HB2;clear ha hb HB2;cases a with
   | false =>
    go_wp2;go_ret;exact⟨by rw[HB3.out];rfl,sU⟩
   | true =>
    cases b with
    | false =>
     go_wp2;go_ret;exact⟨by rw[HB3.out];rfl,sU⟩
    | true =>
     go_wp2;go_ret;exact⟨by rw[HB3.out];rfl,sU⟩
 ·have HB:=Za (lY.out (λh=>wP (by have:=h.1;simp only[YG]at this;exact this)));have dV:=aH u3 (.cells #[.int .i64 p',.int .i64 q'] 189);have dZ:=fU.trans (dV.mono fU.size);by_cases hp:p=p'
  ·have hq:¬q=q':=λe=>wP ⟨hp,e⟩;clear wP;go_wp2;go_ret;exact⟨by rw[HB.out];rfl,dZ⟩
  ·clear wP;go_wp2;go_ret;exact⟨by rw[HB.out];rfl,dZ⟩
def abo:dP:=⟨⟨#[]⟩,[],[]⟩
structure mD where
 rule:Nat
 mt:aX
 deriving DecidableEq
def uh (r:dP):aF:=ng (lS r.left)
def xE (r:dP):aF:=ng (lS r.right)
def okM (g:aF) (r:dP) (m:aX):Bool:=aY (uK g (uh r) (xE r) m)
def o9 (g:aF) (r:dP) (i:Nat) (ml:List aX):List mD:=(ml.filter (okM g r)).map (mD.mk i)
theorem akM (g:aF) (r:dP) (i:Nat) (ml:List aX) (m:aX):o9 g r i (ml++[m])=o9 g r i ml++if okM g r m=true then[⟨i,m⟩]else[]:=by
 unfold o9;rw[X3,ZK,Wg,Wn];cases okM g r m<;>rfl
def UJ (g:aF) (rs:List dP) (i:Nat):List mD:=o9 g (rs.getD i abo) i (o8 g (uh (rs.getD i abo)))
def o_ (g:aF) (rs:List dP) (k:Nat):List mD:=(List.range k).flatMap (UJ g rs)
theorem af0 (g:aF) (rs:List dP) (k:Nat):o_ g rs (k+1)=o_ g rs k++UJ g rs k:=by simp[o_,YV]
theorem asD (g:aF) (rs:List dP) (i:Nat):(UJ g rs i).length<=100:=by
 unfold UJ o9;rw[ZG];refine ZI (WV _ _) ?_;unfold o8;split
 ·simp
 ·exact ac8 _
theorem akN (g:aF) (rs:List dP) (k:Nat):(o_ g rs k).length<=100*k:=by
 induction k with
 | zero=>simp[o_]
 | succ k ih=>rw[af0,Zk];have:=asD g rs k;omega
theorem akO (g:aF) (r:dP) (i:Nat) (ml:List aX):(o9 g r i ml).length<=ml.length:=by
 unfold o9;rw[ZG];exact WV _ _
theorem akP (g q:aF):(o8 g q).length<=100:=by
 unfold o8;split
 ·simp
 ·exact ac8 _
def Oe (r:dP):Prop:=∃x p q,UH r x x/\nameB r.name=true/\lS r.left=some p/\lS r.right=some q/\p.ah.length<=12/\q.ah.length<=12
structure akQ (r:dP):Prop where
 pl:lS r.left=some (uh r)
 pr:lS r.right=some (xE r)
 gl:aY (uh r)=true
 gr:aY (xE r)=true
 ml:Gi (uh r)
 mr:Gi (xE r)
 li:(uh r).aj.length=(xE r).aj.length
 lo:(uh r).ay.length=(xE r).ay.length
 el:(uh r).ah.length<=12
 er:(xE r).ah.length<=12
theorem Oe.sd {r:dP} (h:Oe r):akQ r:=by
 obtain⟨x,p,q,hk,hn,h1,h2,h3,h4⟩:=h;have ep:uh r=p:=by unfold uh;rw[h1];rfl
 have eq:xE r=q:=by unfold xE;rw[h2];rfl
 obtain⟨a1,a2⟩:=ajk hk.tl h1;obtain⟨b1,b2⟩:=ajk hk.tr h2;have c1:=a1.a;have c2:=b1.a;have c3:=a1.b;have c4:=b1.b;refine⟨by rw[ep];exact h1,by rw[eq];exact h2,by rw[ep];exact a1.ok,by rw[eq];exact b1.ok,by rw[ep];exact a2,by rw[eq];exact b2,by rw[ep,eq];omega,by rw[ep,eq];omega,by rw[ep];exact h3,by rw[eq];exact h4⟩
theorem Oe.rb {r:dP} (h:Oe r):Dp r=true:=by
 obtain⟨x,p,q,hk,hn,h1,h2,-⟩:=h;rw[afZ hk rfl hn,h1,h2];rfl
theorem akR {e:aO} (h:qB e=true):fJ e.kind=((e.aj.length:Int),(e.ay.length:Int)):=by
 unfold qB at h;simp only[Zu,ZF]at h;exact h.2.2
theorem adh {g q:aF} {W V:Nat} (hg:aY g=true) (hn:Bj g) (hq:aY q=true) (hm:Bj q) (hW:g.aB=W) (hV:q.aB=V):KO g q W V:=by
 obtain⟨⟨_,a0,a1⟩,a2,a3,a4,a5,a6⟩:=eF hg;obtain⟨⟨_,b0,b1⟩,b2,b3,b4,b5,b6⟩:=eF hq;have ed:∀{x:aF},aY x=true->∀e∈x.ah,qB e=true:=λ{x} hx e he=>by
  unfold aY at hx;simp only[Zu]at hx;exact Z7.1 hx.2.1 e he
 refine⟨⟨hW,hV,λf hf k hk=>?_,λe he k hk=>?_,λe he f hf hk=>?_⟩,by omega,by omega,a2,b2,a5,b5,?_,?_,?_,?_⟩
 ·rw[<-hW];exact a6 k (mem_pl.2 (.inr (.inr ⟨f,hf,Zs.1 hk⟩)))
 ·rw[<-hV];exact b6 k (mem_pl.2 (.inr (.inr ⟨e,he,Zs.1 hk⟩)))
 ·have h1:=akR (ed hq e he);have h2:=akR (ed hg f hf);rw[hk,h2,YG]at h1;omega
 ·exact(Yk.1 hn.o).2.1
 ·exact(Yk.1 hn.d).2.1
 ·exact(Yk.1 hm.o).2.1
 ·exact(Yk.1 hm.d).2.1
theorem adi {g:aF} {r:dP} (hg:aY g=true) (hn:Bj g) (hr:akQ r) {m:aX} (hm:m∈o8 g (uh r)):zU g (uh r) (xE r) m:=by
 obtain⟨⟨W,a0,a1⟩,-⟩:=eF hg;obtain⟨⟨V,b0,b1⟩,-⟩:=eF hr.gl;have hq:=(adh hg hn hr.gl hr.ml.nd a0 b0).mq;have h1:m∈xU g (uh r):=by
  unfold o8 at hm;split at hm
  ·cases hm
  ·exact Y8 hm
 exact⟨hg,hr.gl,hr.gr,(M_ hq m).1 h1,hr.li,hr.lo⟩
theorem akS {u:aF} {T:Nat} {ps:List (Nat×Nat)} (h:Bg u T) (h1:u.ah.length<=120) (h2:∀e∈u.ah,e.aj.length<=2/\e.ay.length<=2):nJ (tV u T ps):=by
 have hi:=h.ok.inn;have ho:=h.ok.out;refine⟨?_,λe he=>?_,?_,?_⟩
 ·simp only[tV,mZ,ZG];omega
 ·obtain⟨x,hx,rfl⟩:=ZM.1 he;have:=h2 x hx;refine⟨?_,?_⟩<;>simp only[jm,gY]<;>omega
 ·simp only[tV,mZ,gY];omega
 ·simp only[tV,mZ,gY];omega
def abp (w:World) (r:dP) (b o:Nat):Prop:=w.cell? ⟨b,o,none⟩=some (.string r.name)/\∃vl vr,w.cell? ⟨b,o+1,none⟩=some vl/\w.cell? ⟨b,o+2,none⟩=some vr/\dG w vl r.left/\dG w vr r.right
theorem abp.keep {w w':World} {r:dP} {b o:Nat} (hb:Below w.heap.size w w') (h:abp w r b o):abp w' r b o:=by
 obtain⟨h1,vl,vr,h2,h3,h4,h5⟩:=h;exact⟨aK hb h1,vl,vr,aK hb h2,aK hb h3,h4.keep hb,h5.keep hb⟩
def qQ (w:World) (v:Value) (rs:List dP):Prop:=nD 3 v rs.length λi b o=>∃h:i<rs.length,abp w rs[i] b o
theorem qQ.keep {w w':World} {v:Value} {rs:List dP} (hb:Below w.heap.size w w') (h:qQ w v rs):qQ w' v rs:=nD.mono h λ_ _ _ ⟨hi,h1⟩=>⟨hi,h1.keep hb⟩
theorem qQ.slice {w:World} {v:Value} {rs:List dP} (h:qQ w v rs):∃a c,v=.slice a rs.length c:=by
 obtain⟨a,cap,rfl,_⟩:=h;exact⟨a,cap,rfl⟩
theorem lT.read {w:World} {B:Nat} {v:Value} {ms:List aX} (h:lT w B v ms):nD 2 v ms.length λi b o=>∃(hi:i<ms.length) (vw ve:Value),w.cell? ⟨b,o,none⟩=some vw/\w.cell? ⟨b,o+1,none⟩=some ve/\Rw w B vw ms[i].aB/\Rw w B ve ms[i].ah:=by
 obtain⟨xs,rfl,h1,h2⟩:=h;have h1':w.ownsRow B 77 2 v (xs.map Prod.fst).length (xs.flatMap D5):=by rw[ZG];exact h1
 refine Me h1' _ λi b o jy hc=>?_;have hi:i<xs.length:=by simpa using jy
 refine⟨jy,xs[i].2.1,xs[i].2.2,?_⟩;have g:∀j,j<2->w.cell? ⟨b,o+j,none⟩=(D5 xs[i])[j]?:=λj hj=>(hc j hj).trans (flat_get aj2 xs i j hi hj);have hh:=h2 xs[i] (Zp hi);simp only[YN];exact⟨g 0 (by omega),g 1 (by omega),hh.1,hh.2⟩
theorem akT:(Tryz.prog.info? 79).map (λi=>(i.zero,i.size,i.bytes))=some (some (.agg #[.int .i64 0,.bool false,.slice none 0 0,.slice none 0 0]),4,64):=by kernel_rfl
abbrev QT:=mD×Value×Value
def QU (x:QT):List Value:=[.int .i64 ((x.1.rule:Nat):Int),.bool false,x.2.1,x.2.2]
structure MvX (w:World) (B:Nat) (v:Value) (xs:List QT):Prop where
 row:w.ownsRow B 79 4 v xs.length (xs.flatMap QU)
 rws:∀x∈xs,Rw w B x.2.1 x.1.mt.aB/\Rw w B x.2.2 x.1.mt.ah
def nC (w:World) (B:Nat) (v:Value) (ms:List mD):Prop:=∃xs:List QT,xs.map Prod.fst=ms/\MvX w B v xs
theorem MvX.keep {w w':World} {B:Nat} {v:Value} {xs:List QT} (hb:Below w.heap.size w w') (h:MvX w B v xs):MvX w' B v xs:=⟨jL hb h.row,λx hx=>⟨(h.rws x hx).1.keep hb,(h.rws x hx).2.keep hb⟩⟩
theorem nC.keep {w w':World} {B:Nat} {v:Value} {ms:List mD} (hb:Below w.heap.size w w') (h:nC w B v ms):nC w' B v ms:=by
 obtain⟨xs,h1,h2⟩:=h;exact⟨xs,h1,h2.keep hb⟩
theorem nC.slice {w:World} {B:Nat} {v:Value} {ms:List mD} (h:nC w B v ms):∃a c,v=.slice a ms.length c:=by
 obtain⟨xs,rfl,h2,h3⟩:=h;rw[ZG];rcases h2.2 with⟨hv,he⟩|⟨g,cap,cur,hv,_⟩
 ·exact⟨none,0,by rw[hv,he]⟩
 ·exact⟨_,_,hv⟩
theorem nC.lt {w:World} {B:Nat} {v:Value} {ms:List mD} (h:nC w B v ms):∀j,v.ownBlock=some j->B<=j/\j<w.heap.size:=by
 obtain⟨xs,_,h2,_⟩:=h;exact Zh h2
theorem nC.nil (w:World) (B:Nat):nC w B (.slice none 0 0) []:=⟨[],rfl,Ye _ _ _ _,by simp⟩
theorem nC.ne {w:World} {B b:Nat} {v:Value} {ms:List mD} {t:TypeId} {cs:Array Value} (h:nC w B v ms) (hb:Bk w b t cs) (ht:79≠t):v.ownBlock≠some b:=by
 obtain⟨xs,_,h2,_⟩:=h;exact cO h2 hb ht
theorem nC.apart {w:World} {B B2 e sz n:Nat} {v u:Value} {ms:List mD} {zs:List Value} (h:nC w B v ms) (hr:w.ownsRow B2 e sz u n zs) (he:e≠79):∀k,u.ownBlock=some k->v.ownBlock≠some k:=by
 obtain⟨xs,_,h2,_⟩:=h;exact λk hk e=>wC hr h2 he k hk e
theorem nC.grown {w w':World} {B B2:Nat} {v u:Value} {ms:List mD} {zs:List Int} (h:nC w B v ms) (hg:w.grownBy w' v.ownBlock) (hr:Rw w B2 u zs):Rw w' B2 u zs :=
 Rw.grown hr hg (h.apart hr (by decide))
theorem nC.asE {w w':World} {B B2:Nat} {v u:Value} {ms:List mD} {ml:List aX} (h:nC w B v ms) (hg:w.grownBy w' v.ownBlock) (hr:lT w B2 u ml):lT w' B2 u ml:=by
 obtain⟨xs,h1,h2,h3⟩:=hr;exact⟨xs,h1,aaS h2 hg (h.apart h2 (by decide)),λx hx=>⟨h.grown hg (h3 x hx).1,h.grown hg (h3 x hx).2⟩⟩
theorem nC.akU {w w':World} {B B2:Nat} {v ve vi vo:Value} {ms:List mD} {g:aF} (h:nC w B v ms) (hg:w.grownBy w' v.ownBlock) (hr:dB w B2 ve vi vo g):dB w' B2 ve vi vo g:=by
 obtain⟨⟨xs,e1,h2,h3⟩,h4,h5⟩:=hr;exact⟨⟨xs,e1,aaS h2 hg (h.apart h2 (by decide)),λx hx=>⟨h.grown hg (h3 x hx).1,h.grown hg (h3 x hx).2⟩⟩,h.grown hg h4,h.grown hg h5⟩
theorem akV {w:World} {B:Nat} {y:QT} (h1:Rw w B y.2.1 y.1.mt.aB) (h2:Rw w B y.2.2 y.1.mt.ah):∀u∈QU y,u.oneCell'=true:=by
 intro u hu;simp only[QU,ZU,YM,XM]at hu;rcases hu with rfl|rfl|rfl|rfl
 ·rfl
 ·rfl
 ·obtain⟨a,c,e⟩:=h1.slice;rw[e];rfl
 ·obtain⟨a,c,e⟩:=h2.slice;rw[e];rfl
theorem asF {w:World} {ops:Array Oper} {rest:List Oper} {o:Oper} {a:Act} {Q:Exit->Act->World->Prop} (hgd:o.guard=none) (s x:Operand)
  (ho:o.op=.call { callee:=.builtin .append,args:=#[s,x],argTypes:=#[40,40] })
  (B:Nat) (v:Value) (ms:List mD) (hs:a.eval s=v) (hrow:nC w B v ms) (b:Nat) (m:mD) (vw ve:Value) (hx:a.eval x=.slice (some ⟨b,0,none⟩) 1 1) (hb:Bk w b 79 #[.int .i64 ((m.rule:Nat):Int),.bool false,vw,ve]) (h1:Rw w B vw m.mt.aB) (h2:Rw w B ve m.mt.ah) (hB:B<=w.heap.size) (hl:ms.length<=100000)
  (H:∀v' w',nC w' B v' (ms++[m])->w.grownBy w' v.ownBlock->(v'.ownBlock=v.ownBlock\/v'.ownBlock=some w.heap.size)->wpList Tryz.prog ops Q rest (a.put o.dst v') w'):wpList Tryz.prog ops Q (o::rest) a w:=by
 obtain⟨i0,hi,hz0,hz1,hz2⟩:=Yg akT;obtain⟨xs,rfl,hX⟩:=hrow;rw[ZG]at hl;have w_:AO w 4 (.slice (some ⟨b,0,none⟩) 1 1) 1 (QU (m,vw,ve)):=⟨rfl,.inr ⟨_,_,rfl,λj u hj=>by
  rw[addr_add,Yp,hb.cell.1 j];simpa[QU]using hj⟩⟩
 refine JQ hgd s x 40 ho B 79 i0 _ 4 64 Tryz.underlying40 hi hz0 hz1 hz2 rfl (by decide) v xs.length _ hs hX.row _ 1 _ hx w_ (akV (y:=(m,vw,ve)) h1 h2) (by unfold maxLen;omega) (by omega) hB ?_;intro v' w' r1 r2 r3;have hM:nC w B v (xs.map Prod.fst):=⟨xs,rfl,hX⟩
 refine H v' w' ⟨xs++[(m,vw,ve)],by simp,⟨?_,λz hz=>?_⟩⟩ r2 r3
 ·rw[Zk,ZL];simpa using r1
 ·rcases Zs.1 hz with hz|hz
  ·exact⟨hM.grown r2 (hX.rws z hz).1,hM.grown r2 (hX.rws z hz).2⟩
  ·obtain rfl:=ZS.1 hz;exact⟨hM.grown r2 h1,hM.grown r2 h2⟩
def adk (ms:List mD) (w:World) (e:Ending) (w':World):Prop:=∃v,e=.returned v/\nC w' w.heap.size v ms/\Below w.heap.size w w'
def SdP (r:dP) (w:World) (e:Ending) (w':World):Prop:=∃(g h:aF) (a1:Option Addr) (c1:Nat) (a2:Option Addr) (c2:Nat) (a3:Option Addr) (c3:Nat) (b1:Option Addr) (d1:Nat) (b2:Option Addr) (d2:Nat) (b3:Option Addr) (d3:Nat),
 e=.returned (.tuple #[.agg #[.int .i64 g.aB,.slice a1 g.ah.length c1,.slice a2 g.aj.length c2,.slice a3 g.ay.length c3],.agg #[.int .i64 h.aB,.slice b1 h.ah.length d1,.slice b2 h.aj.length d2,.slice b3 h.ay.length d3],.bool (Dp r)]) /\
 dB w' w.heap.size (.slice a1 g.ah.length c1) (.slice a2 g.aj.length c2) (.slice a3 g.ay.length c3) g/\dB w' w.heap.size (.slice b1 h.ah.length d1) (.slice b2 h.aj.length d2) (.slice b3 h.ay.length d3) h /\
 (Dp r=true->lS r.left=some g/\lS r.right=some h)/\Below w.heap.size w w'
theorem akW (r:dP) (x y:W2) (vl vr:Value) (w:World) (hk:UH r x y) (hl:dG w vl r.left) (hr:dG w vr r.right) :
  Calls Tryz.prog 54 #[.agg #[.string r.name,vl,vr]] w (SdP r w):=by
 obtain⟨al,cl,rfl⟩:=hl.slice;obtain⟨ar,cr,rfl⟩:=hr.slice;have aQ:=aH w (.cells #[.string r.name,.slice al r.left.length cl,.slice ar r.right.length cr] 66);have aT:=aH (w.alloc (.cells #[.string r.name,.slice al r.left.length cl,.slice ar r.right.length cr] 66)) (.cells #[.int .i64 0,.slice none 0 0,.slice none 0 0,.slice none 0 0] 33);have dU:=aH ((w.alloc (.cells #[.string r.name,.slice al r.left.length cl,.slice ar r.right.length cr] 66)).alloc (.cells #[.int .i64 0,.slice none 0 0,.slice none 0 0,.slice none 0 0] 33)) (.cells #[.int .i64 0,.slice none 0 0,.slice none 0 0,.slice none 0 0] 33);have hA:=aQ.trans ((aT.mono aQ.size).trans (dU.mono (by simp;omega)));have kI:=((Bk.new w 66 #[.string r.name,.slice al r.left.length cl,.slice ar r.right.length cr]).keep aT).keep dU;have k1:=(Bk.new (w.alloc (.cells #[.string r.name,.slice al r.left.length cl,.slice ar r.right.length cr] 66)) 33 #[.int .i64 0,.slice none 0 0,.slice none 0 0,.slice none 0 0]).keep dU;have k2:=Bk.new ((w.alloc (.cells #[.string r.name,.slice al r.left.length cl,.slice ar r.right.length cr] 66)).alloc (.cells #[.int .i64 0,.slice none 0 0,.slice none 0 0,.slice none 0 0] 33)) 33 #[.int .i64 0,.slice none 0 0,.slice none 0 0,.slice none 0 0];simp only[Zn]at k1 k2;clear aQ aT dU;have okl:wQ r.left:=⟨hk.ln,by have:=Nl hk.tl;omega⟩
 have okr:wQ r.right:=⟨hk.rn,by have:=Nl hk.tr;omega⟩
 have o7:=Za (λu (h:dG u (.slice al r.left.length cl) r.left)=>afY _ r.left x u h okl hk.tl);have QS:=Za (λu (h:dG u (.slice ar r.right.length cr) r.right)=>afY _ r.right y u h okr hk.tr);have HN:=Za (λu=>ahi r.name u hk.nm);have Ky:=Za (λu (h:dG u (.slice al r.left.length cl) r.left)=>(akJ r.left x _ u hk.tl h).mono (R':=QN _ u) λ_ _ h=>h.q);have IE:=Za (λu (h:dG u (.slice ar r.right.length cr) r.right)=>(akJ r.right y _ u hk.tr h).mono (R':=QN _ u) λ_ _ h=>h.q);have lY:=Za (akL hk);have HYE:=Za (afZ hk);have HL:=Za hl;have HR:=Za hr;have I5:=Za k2.lt;clear hk hl hr okl okr;go_enter Tryz.func54,Tryz.ntmps54;go_wp2_with fail
 generalize(((w.alloc (.cells #[.string r.name,.slice al r.left.length cl,.slice ar r.right.length cr] 66)).alloc (.cells #[.int .i64 0,.slice none 0 0,.slice none 0 0,.slice none 0 0] 33)).alloc (.cells #[.int .i64 0,.slice none 0 0,.slice none 0 0,.slice none 0 0] 33))=u0 at *;refine(o7.out u0 (HL.out.keep hA)).mono ?_;rintro e u1⟨rfl,hb1⟩;have aS:=hA.trans (hb1.mono hA.size);have GY:=Za hA.size;replace kI:=kI.keep hb1;replace k1:=k1.keep hb1;replace k2:=k2.keep hb1;obtain⟨iI,-,zI⟩:=kI.cell;clear hA hb1;go_wp2_with fail
 refine(QS.out u1 (HR.out.keep aS)).mono ?_;rintro e u2⟨rfl,hb2⟩;have aZ:=aS.trans (hb2.mono aS.size);replace kI:=kI.keep hb2;replace k1:=k1.keep hb2;replace k2:=k2.keep hb2;clear iI zI hb2 aS;obtain⟨iI,-,zI⟩:=kI.cell;obtain⟨i1,f1,z1⟩:=k1.cell;obtain⟨i2,f2,z2⟩:=k2.cell;obtain⟨p,q⟩:=x;obtain⟨p',q'⟩:=y;dsimp only at *;go_wp2_with fail
 refine(HN.out u2).mono ?_;rintro e u3⟨rfl,hb3⟩;have fU:=aZ.trans (hb3.mono aZ.size);replace kI:=kI.keep hb3;replace k1:=k1.keep hb3;replace k2:=k2.keep hb3;clear iI zI hb3 aZ i1 f1 z1 i2 f2 z2;obtain⟨iI,-,zI⟩:=kI.cell;obtain⟨i1,f1,z1⟩:=k1.cell;obtain⟨i2,f2,z2⟩:=k2.cell;have TN:=Za (show w.heap.size+1+1<u3.heap.size from z2);have hne:¬w.heap.size+1=w.heap.size+1+1:=by omega
 have Jl:¬w.heap.size+1+1=w.heap.size+1:=by omega
 have HZ:=Za (show ∀(B:Bool) (u:World),Dp r=false->Below w.heap.size w u->SdP r w (.returned (.tuple #[.agg #[.int .i64 0,.slice none 0 0,.slice none 0 0,.slice none 0 0],.agg #[.int .i64 0,.slice none 0 0,.slice none 0 0,.slice none 0 0],.bool false])) u from λB u hh hb=>⟨⟨0,[],[],[]⟩,⟨0,[],[],[]⟩,none,0,none,0,none,0,none,0,none,0,none,0,by rw[hh];rfl,dB.zero _ _,dB.zero _ _,(by rw[hh];intro h;cases h),hb⟩);by_cases wP:p=p'/\q=q'
 ·obtain⟨rfl,rfl⟩:=wP;cases hn:nameB r.name with
  | false =>
   have HB:=Za (lY.out (λh=>by rw[hn]at h;cases h.2));clear hn;go_wp2;refine Zt (v:=.tuple #[.agg #[.int .i64 0,.slice none 0 0,.slice none 0 0,.slice none 0 0],.agg #[.int .i64 0,.slice none 0 0,.slice none 0 0,.slice none 0 0],.bool false]) (by simp[results,Tryz.results54,go_sem,i1,i2,hne,Jl]) rfl (HZ.out true _ HB.out ?_);exact iU (iU fU (by omega) _ _ _ _) (by omega) _ _ _ _
  | true =>
   have HB:=Za (HYE.out rfl hn);clear hn;go_wp2_with fail
   refine(Ky.out u3 (HL.out.keep fU)).mono ?_;rintro e u4⟨x1,y1,x2,y2,x3,y3,rfl,hg4,hb4⟩;have dZ:=fU.trans (hb4.mono fU.size);have Jj:=Za fU.size;have asG:=Za hb4.size;replace kI:=kI.keep hb4;replace k1:=k1.keep hb4;replace k2:=k2.keep hb4;have asH:=k2.lt;clear iI zI hb4 fU i1 f1 z1 i2 f2 z2;obtain⟨iI,-,zI⟩:=kI.cell;go_wp2_with fail
   obtain⟨G,hG⟩:∃G,ng (lS r.left)=G:=⟨_,rfl⟩
   obtain⟨a,ha⟩:∃a,(lS r.left).isSome=a:=⟨_,rfl⟩
   have HGA:=Za (Zb hG ha);rw[hG]at hg4 ⊢;rw[ha]at HB ⊢;have k11:=Bk.new u4 33 #[.int .i64 G.aB,.slice x1 G.ah.length y1,.slice x2 G.aj.length y2,.slice x3 G.ay.length y3];have fP:=aH u4 (.cells #[.int .i64 G.aB,.slice x1 G.ah.length y1,.slice x2 G.aj.length y2,.slice x3 G.ay.length y3] 33);have iV:=dZ.trans (fP.mono dZ.size);have HU5:=Za (show u3.heap.size<=(u4.alloc (.cells #[.int .i64 G.aB,.slice x1 G.ah.length y1,.slice x2 G.aj.length y2,.slice x3 G.ay.length y3] 33)).heap.size from ZI asG.out fP.size);replace kI:=kI.keep fP;replace k1:=k1.keep fP;replace k2:=k2.keep fP;replace hg4:=hg4.keep fP;clear iI zI fP dZ hG ha;generalize(u4.alloc (.cells #[.int .i64 G.aB,.slice x1 G.ah.length y1,.slice x2 G.aj.length y2,.slice x3 G.ay.length y3] 33))=u5 at *;have asI:=Za (show w.heap.size+1+1<u4.heap.size from asH);generalize u4.heap.size=b11 at *;refine(IE.out u5 (HR.out.keep iV)).mono ?_;rintro e u6⟨s1,t1,s2,t2,s3,t3,rfl,Oa,aV⟩;have eY:=iV.trans (aV.mono iV.size);have Jk:=Za iV.size;replace k1:=k1.keep aV;replace k2:=k2.keep aV;replace k11:=k11.keep aV;have asJ:=Za (show w.heap.size+1+1<u6.heap.size from k2.lt);replace hg4:=hg4.keep aV;clear aV iV kI;obtain⟨H,hH⟩:∃H,ng (lS r.right)=H:=⟨_,rfl⟩
   obtain⟨b,hb⟩:∃b,(lS r.right).isSome=b:=⟨_,rfl⟩
   have Og:=Za (Zb hH hb);rw[hH]at Oa ⊢;rw[hb]at HB ⊢;go_wp2_with fail
   have k13:=Bk.new u6 33 #[.int .i64 H.aB,.slice s1 H.ah.length t1,.slice s2 H.aj.length t2,.slice s3 H.ay.length t3];have jZ:=aH u6 (.cells #[.int .i64 H.aB,.slice s1 H.ah.length t1,.slice s2 H.aj.length t2,.slice s3 H.ay.length t3] 33);have iy:=eY.trans (jZ.mono eY.size);replace k1:=k1.keep jZ;replace k2:=k2.keep jZ;replace k11:=k11.keep jZ;replace hg4:=hg4.keep jZ;replace Oa:=Oa.keep jZ;clear jZ eY hH hb;have z11:=k11.lt;have HZB:=Za (show w.heap.size+1+1<b11/\w.heap.size+1+1<u6.heap.size from⟨asI.out,asJ.out⟩);generalize(u6.alloc (.cells #[.int .i64 H.aB,.slice s1 H.ah.length t1,.slice s2 H.aj.length t2,.slice s3 H.ay.length t3] 33))=u7 at *;generalize u6.heap.size=b13 at *;obtain⟨i11,-,-⟩:=k11.cell;obtain⟨i13,-,z13⟩:=k13.cell;have c0:=i11 0;have c1:=i11 1;have c2:=i11 2;have c3:=i11 3;have d0:=i13 0;have d1:=i13 1;have d2:=i13 2;have d3:=i13 3;simp at c0 c1 c2 c3 d0 d1 d2 d3;clear i11 i13;have n1:¬b11=w.heap.size+1:=by have:=HZB.out;omega
   have n2:¬b11=w.heap.size+1+1:=by have:=HZB.out;omega
   have n3:¬b13=w.heap.size+1:=by have:=HZB.out;omega
   have n4:¬b13=w.heap.size+1+1:=by have:=HZB.out;omega
   have Fa:=Za (show w.heap.size+1+1<u3.heap.size from TN.out);have akX:=Za HU5.out;cases a with
   | true =>
    refine h_ (C:=aC ((λj=>j=w.heap.size+1\/j=w.heap.size+1+1)) _) 6 [0,1,2,3,4,5,6,7,8] (by kernel_rfl) (by kernel_rfl) (aC.aJ _ _) (aC.refl _ _) ?_;iterate 4 (apply i_ rfl rfl rfl;(focus intro u hc' hf';(try simp only[Zo]at hc' hf');go_simp<;>rfl);intro K hK;go_simp;apply hK;clear hK K)
    refine anw rfl rfl (λK hK=>?_);refine⟨by first|rfl|(simp[Region.wanted,yielded,go_sem]),?_⟩;apply Zq;refine⟨λw' hw'=>?_,?_⟩
    ·go_simp;rfl
    go_simp;refine hK _ _ _ ?_;clear hK K;iterate 1 (apply i_ rfl rfl rfl;(focus intro u hc' hf';(try simp only[Zo]at hc' hf');go_simp<;>rfl);intro K hK;go_simp;apply hK;clear hK K)
    refine jd rfl rfl rfl (aC.aJ _ _) (aC.refl _ _) (λK hK=>?_);intro w8 dY bJ;have Ea:Below u7.heap.size u7 w8:=(Zl u7.heap.size u7).drew.trans (bJ.mono (by simp));have k18:=k1.keep Ea;have k28:=k2.keep Ea;obtain⟨m0,m1,m2⟩:=k18.cell;refine⟨(((w8.setCell ⟨w.heap.size+1,0,none⟩ (.int .i64 G.aB)).setCell ⟨w.heap.size+1,1,none⟩ (.slice x1 G.ah.length y1)).setCell ⟨w.heap.size+1,2,none⟩ (.slice x2 G.aj.length y2)).setCell ⟨w.heap.size+1,3,none⟩ (.slice x3 G.ay.length y3),?_,⟨bF (bF (bF (bF dY (.inr (.inl rfl)) _) (.inr (.inl rfl)) _) (.inr (.inl rfl)) _) (.inr (.inl rfl)) _,by simp,λj hj _ _=>by
     have gV:¬(j=w.heap.size+1):=by intro hh;have:=k1.lt;simp only[Zo]at hj;omega
     rw[Zm _ _ _ _ (λh=>gV (by simpa using h)),Zm _ _ _ _ (λh=>gV (by simpa using h)),Zm _ _ _ _ (λh=>gV (by simpa using h)),Zm _ _ _ _ (λh=>gV (by simpa using h))]⟩,?_⟩
    ·go_simp
    go_simp;refine hK _ _ _ ?_;clear hK K;have g8:=dB.res ((hg4.keep Ea).mono (B':=u3.heap.size) (Zj _)) (b:=w.heap.size+1) (by have:=Fa.out;omega) (.int .i64 G.aB) (.slice x1 G.ah.length y1) (.slice x2 G.aj.length y2) (.slice x3 G.ay.length y3);have h8:=dB.res ((Oa.keep Ea).mono (B':=u3.heap.size) akX.out) (b:=w.heap.size+1) (by have:=Fa.out;omega) (.int .i64 G.aB) (.slice x1 G.ah.length y1) (.slice x2 G.aj.length y2) (.slice x3 G.ay.length y3);have b8:=iU (iy.trans (Ea.mono iy.size)) (b:=w.heap.size+1) (by omega) (.int .i64 G.aB) (.slice x1 G.ah.length y1) (.slice x2 G.aj.length y2) (.slice x3 G.ay.length y3);have ka:Bk ((((w8.setCell ⟨w.heap.size+1,0,none⟩ (.int .i64 G.aB)).setCell ⟨w.heap.size+1,1,none⟩ (.slice x1 G.ah.length y1)).setCell ⟨w.heap.size+1,2,none⟩ (.slice x2 G.aj.length y2)).setCell ⟨w.heap.size+1,3,none⟩ (.slice x3 G.ay.length y3)) (w.heap.size+1) 33 #[.int .i64 G.aB,.slice x1 G.ah.length y1,.slice x2 G.aj.length y2,.slice x3 G.ay.length y3]:=(((k18.set 0 _).set 1 _).set 2 _).set 3 _;have kb:=(((k28.other ⟨w.heap.size+1,0,none⟩ (.int .i64 G.aB) (by simp)).other ⟨w.heap.size+1,1,none⟩ (.slice x1 G.ah.length y1) (by simp)).other ⟨w.heap.size+1,2,none⟩ (.slice x2 G.aj.length y2) (by simp)).other ⟨w.heap.size+1,3,none⟩ (.slice x3 G.ay.length y3) (by simp);have hx8:aC (λj=>j=w.heap.size+1\/j=w.heap.size+1+1) u7.drew ((((w8.setCell ⟨w.heap.size+1,0,none⟩ (.int .i64 G.aB)).setCell ⟨w.heap.size+1,1,none⟩ (.slice x1 G.ah.length y1)).setCell ⟨w.heap.size+1,2,none⟩ (.slice x2 G.aj.length y2)).setCell ⟨w.heap.size+1,3,none⟩ (.slice x3 G.ay.length y3)):=bF (bF (bF (bF dY (.inr (.inl rfl)) _) (.inr (.inl rfl)) _) (.inr (.inl rfl)) _) (.inr (.inl rfl)) _;clear dY bJ Ea k18 k28 m0 m1 m2;generalize((((w8.setCell ⟨w.heap.size+1,0,none⟩ (.int .i64 G.aB)).setCell ⟨w.heap.size+1,1,none⟩ (.slice x1 G.ah.length y1)).setCell ⟨w.heap.size+1,2,none⟩ (.slice x2 G.aj.length y2)).setCell ⟨w.heap.size+1,3,none⟩ (.slice x3 G.ay.length y3))=u9 at *;refine jd rfl rfl rfl (aC.aJ _ _) hx8 (λK hK=>?_);intro w9 Pm dX;have ka9:=ka.keep dX;have QW:=kb.keep dX;obtain⟨m0,m1,m2⟩:=QW.cell;refine⟨(((w9.setCell ⟨w.heap.size+1+1,0,none⟩ (.int .i64 H.aB)).setCell ⟨w.heap.size+1+1,1,none⟩ (.slice s1 H.ah.length t1)).setCell ⟨w.heap.size+1+1,2,none⟩ (.slice s2 H.aj.length t2)).setCell ⟨w.heap.size+1+1,3,none⟩ (.slice s3 H.ay.length t3),?_,⟨bF (bF (bF (bF Pm (.inr (.inr rfl)) _) (.inr (.inr rfl)) _) (.inr (.inr rfl)) _) (.inr (.inr rfl)) _,by simp,λj hj _ _=>by
     have gV:¬(j=w.heap.size+1+1):=by intro hh;have:=k2.lt;simp only[Zo]at hj;omega
     rw[Zm _ _ _ _ (λh=>gV (by simpa using h)),Zm _ _ _ _ (λh=>gV (by simpa using h)),Zm _ _ _ _ (λh=>gV (by simpa using h)),Zm _ _ _ _ (λh=>gV (by simpa using h))]⟩,?_⟩
    ·go_simp
    go_simp;refine hK _ _ _ ?_;clear hK K;iterate 1 (apply i_ rfl rfl rfl;(focus intro u hc' hf';(try simp only[Zo]at hc' hf');go_simp<;>rfl);intro K hK;go_simp;apply hK;clear hK K)
    refine dR ?_;have g9:=dB.res (g8.keep dX) (b:=w.heap.size+1+1) (by have:=Fa.out;omega) (.int .i64 H.aB) (.slice s1 H.ah.length t1) (.slice s2 H.aj.length t2) (.slice s3 H.ay.length t3);have h9:=dB.res (h8.keep dX) (b:=w.heap.size+1+1) (by have:=Fa.out;omega) (.int .i64 H.aB) (.slice s1 H.ah.length t1) (.slice s2 H.aj.length t2) (.slice s3 H.ay.length t3);have b9:=iU (b8.trans (dX.mono b8.size)) (b:=w.heap.size+1+1) (by omega) (.int .i64 H.aB) (.slice s1 H.ah.length t1) (.slice s2 H.aj.length t2) (.slice s3 H.ay.length t3);obtain⟨ja,fa,za⟩:=ka9.cell;obtain⟨jb,fb,zb⟩:=QW.cell;have AQ:=Za (Zb g9 (Zb h9 b9));clear Pm dX ka9 QW ka kb hx8 g8 h8 b8 g9 h9 b9 m1 m2;go_wp2;refine Zt (v:=.tuple #[.agg #[.int .i64 G.aB,.slice x1 G.ah.length y1,.slice x2 G.aj.length y2,.slice x3 G.ay.length y3],.agg #[.int .i64 H.aB,.slice s1 H.ah.length t1,.slice s2 H.aj.length t2,.slice s3 H.ay.length t3],.bool b]) (by simp[results,Tryz.results54,go_sem,ja,jb,fa,fb,za,zb,hne,Jl]) rfl ?_;refine⟨G,H,x1,y1,x2,y2,x3,y3,s1,t1,s2,t2,s3,t3,by rw[HB.out];rfl,AQ.out.1.mono (by have:=Fa.out;omega),AQ.out.2.1.mono (by have:=Fa.out;omega),λhh=>?_,AQ.out.2.2⟩;rw[HB.out]at hh;have hb2:b=true:=hh;rw[hb2]at Og;exact⟨by
     obtain⟨g,hg⟩:=Xj.1 HGA.out.2;rw[hg]at HGA ⊢;rw[<-HGA.out.1];rfl,by
     obtain⟨g,hg⟩:=Xj.1 Og.out.2;rw[hg]at Og ⊢;rw[<-Og.out.1];rfl⟩
   | false =>
    refine h_ (C:=aC ((λj=>j=w.heap.size+1\/j=w.heap.size+1+1)) _) 6 [0,1,2,3,4,5,6,7,8] (by kernel_rfl) (by kernel_rfl) (aC.aJ _ _) (aC.refl _ _) ?_;iterate 4 (apply i_ rfl rfl rfl;(focus intro u hc' hf';(try simp only[Zo]at hc' hf');go_simp<;>rfl);intro K hK;go_simp;apply hK;clear hK K)
    iterate 1 (refine anv rfl λK hK=>⟨by first|rfl|(simp[Region.wanted,yielded,go_sem]),?_⟩;go_simp;apply hK;clear hK K)
    iterate 1 (apply i_ rfl rfl rfl;(focus intro u hc' hf';(try simp only[Zo]at hc' hf');go_simp<;>rfl);intro K hK;go_simp;apply hK;clear hK K)
    refine jd rfl rfl rfl (aC.aJ _ _) (aC.refl _ _) (λK hK=>?_);intro w8 dY bJ;have Ea:Below u7.heap.size u7 w8:=(Zl u7.heap.size u7).drew.trans (bJ.mono (by simp));have k18:=k1.keep Ea;have k28:=k2.keep Ea;obtain⟨m0,m1,m2⟩:=k18.cell;refine⟨(((w8.setCell ⟨w.heap.size+1,0,none⟩ (.int .i64 G.aB)).setCell ⟨w.heap.size+1,1,none⟩ (.slice x1 G.ah.length y1)).setCell ⟨w.heap.size+1,2,none⟩ (.slice x2 G.aj.length y2)).setCell ⟨w.heap.size+1,3,none⟩ (.slice x3 G.ay.length y3),?_,⟨bF (bF (bF (bF dY (.inr (.inl rfl)) _) (.inr (.inl rfl)) _) (.inr (.inl rfl)) _) (.inr (.inl rfl)) _,by simp,λj hj _ _=>by
     have gV:¬(j=w.heap.size+1):=by intro hh;have:=k1.lt;simp only[Zo]at hj;omega
     rw[Zm _ _ _ _ (λh=>gV (by simpa using h)),Zm _ _ _ _ (λh=>gV (by simpa using h)),Zm _ _ _ _ (λh=>gV (by simpa using h)),Zm _ _ _ _ (λh=>gV (by simpa using h))]⟩,?_⟩
    ·go_simp
    go_simp;refine hK _ _ _ ?_;clear hK K;have g8:=dB.res ((hg4.keep Ea).mono (B':=u3.heap.size) (Zj _)) (b:=w.heap.size+1) (by have:=Fa.out;omega) (.int .i64 G.aB) (.slice x1 G.ah.length y1) (.slice x2 G.aj.length y2) (.slice x3 G.ay.length y3);have h8:=dB.res ((Oa.keep Ea).mono (B':=u3.heap.size) akX.out) (b:=w.heap.size+1) (by have:=Fa.out;omega) (.int .i64 G.aB) (.slice x1 G.ah.length y1) (.slice x2 G.aj.length y2) (.slice x3 G.ay.length y3);have b8:=iU (iy.trans (Ea.mono iy.size)) (b:=w.heap.size+1) (by omega) (.int .i64 G.aB) (.slice x1 G.ah.length y1) (.slice x2 G.aj.length y2) (.slice x3 G.ay.length y3);have ka:Bk ((((w8.setCell ⟨w.heap.size+1,0,none⟩ (.int .i64 G.aB)).setCell ⟨w.heap.size+1,1,none⟩ (.slice x1 G.ah.length y1)).setCell ⟨w.heap.size+1,2,none⟩ (.slice x2 G.aj.length y2)).setCell ⟨w.heap.size+1,3,none⟩ (.slice x3 G.ay.length y3)) (w.heap.size+1) 33 #[.int .i64 G.aB,.slice x1 G.ah.length y1,.slice x2 G.aj.length y2,.slice x3 G.ay.length y3]:=(((k18.set 0 _).set 1 _).set 2 _).set 3 _;have kb:=(((k28.other ⟨w.heap.size+1,0,none⟩ (.int .i64 G.aB) (by simp)).other ⟨w.heap.size+1,1,none⟩ (.slice x1 G.ah.length y1) (by simp)).other ⟨w.heap.size+1,2,none⟩ (.slice x2 G.aj.length y2) (by simp)).other ⟨w.heap.size+1,3,none⟩ (.slice x3 G.ay.length y3) (by simp);have hx8:aC (λj=>j=w.heap.size+1\/j=w.heap.size+1+1) u7.drew ((((w8.setCell ⟨w.heap.size+1,0,none⟩ (.int .i64 G.aB)).setCell ⟨w.heap.size+1,1,none⟩ (.slice x1 G.ah.length y1)).setCell ⟨w.heap.size+1,2,none⟩ (.slice x2 G.aj.length y2)).setCell ⟨w.heap.size+1,3,none⟩ (.slice x3 G.ay.length y3)):=bF (bF (bF (bF dY (.inr (.inl rfl)) _) (.inr (.inl rfl)) _) (.inr (.inl rfl)) _) (.inr (.inl rfl)) _;clear dY bJ Ea k18 k28 m0 m1 m2;generalize((((w8.setCell ⟨w.heap.size+1,0,none⟩ (.int .i64 G.aB)).setCell ⟨w.heap.size+1,1,none⟩ (.slice x1 G.ah.length y1)).setCell ⟨w.heap.size+1,2,none⟩ (.slice x2 G.aj.length y2)).setCell ⟨w.heap.size+1,3,none⟩ (.slice x3 G.ay.length y3))=u9 at *;refine jd rfl rfl rfl (aC.aJ _ _) hx8 (λK hK=>?_);intro w9 Pm dX;have ka9:=ka.keep dX;have QW:=kb.keep dX;obtain⟨m0,m1,m2⟩:=QW.cell;refine⟨(((w9.setCell ⟨w.heap.size+1+1,0,none⟩ (.int .i64 H.aB)).setCell ⟨w.heap.size+1+1,1,none⟩ (.slice s1 H.ah.length t1)).setCell ⟨w.heap.size+1+1,2,none⟩ (.slice s2 H.aj.length t2)).setCell ⟨w.heap.size+1+1,3,none⟩ (.slice s3 H.ay.length t3),?_,⟨bF (bF (bF (bF Pm (.inr (.inr rfl)) _) (.inr (.inr rfl)) _) (.inr (.inr rfl)) _) (.inr (.inr rfl)) _,by simp,λj hj _ _=>by
     have gV:¬(j=w.heap.size+1+1):=by intro hh;have:=k2.lt;simp only[Zo]at hj;omega
     rw[Zm _ _ _ _ (λh=>gV (by simpa using h)),Zm _ _ _ _ (λh=>gV (by simpa using h)),Zm _ _ _ _ (λh=>gV (by simpa using h)),Zm _ _ _ _ (λh=>gV (by simpa using h))]⟩,?_⟩
    ·go_simp
    go_simp;refine hK _ _ _ ?_;clear hK K;iterate 1 (apply i_ rfl rfl rfl;(focus intro u hc' hf';(try simp only[Zo]at hc' hf');go_simp<;>rfl);intro K hK;go_simp;apply hK;clear hK K)
    refine dR ?_;have g9:=dB.res (g8.keep dX) (b:=w.heap.size+1+1) (by have:=Fa.out;omega) (.int .i64 H.aB) (.slice s1 H.ah.length t1) (.slice s2 H.aj.length t2) (.slice s3 H.ay.length t3);have h9:=dB.res (h8.keep dX) (b:=w.heap.size+1+1) (by have:=Fa.out;omega) (.int .i64 H.aB) (.slice s1 H.ah.length t1) (.slice s2 H.aj.length t2) (.slice s3 H.ay.length t3);have b9:=iU (b8.trans (dX.mono b8.size)) (b:=w.heap.size+1+1) (by omega) (.int .i64 H.aB) (.slice s1 H.ah.length t1) (.slice s2 H.aj.length t2) (.slice s3 H.ay.length t3);obtain⟨ja,fa,za⟩:=ka9.cell;obtain⟨jb,fb,zb⟩:=QW.cell;have AQ:=Za (Zb g9 (Zb h9 b9));clear Pm dX ka9 QW ka kb hx8 g8 h8 b8 g9 h9 b9 m1 m2;go_wp2;refine Zt (v:=.tuple #[.agg #[.int .i64 G.aB,.slice x1 G.ah.length y1,.slice x2 G.aj.length y2,.slice x3 G.ay.length y3],.agg #[.int .i64 H.aB,.slice s1 H.ah.length t1,.slice s2 H.aj.length t2,.slice s3 H.ay.length t3],.bool false]) (by simp[results,Tryz.results54,go_sem,ja,jb,fa,fb,za,zb,hne,Jl]) rfl ?_;refine⟨G,H,x1,y1,x2,y2,x3,y3,s1,t1,s2,t2,s3,t3,by rw[HB.out];rfl,AQ.out.1.mono (by have:=Fa.out;omega),AQ.out.2.1.mono (by have:=Fa.out;omega),λhh=>?_,AQ.out.2.2⟩;rw[HB.out]at hh;cases hh
 ·have HB:=Za (lY.out (λh=>wP (by have:=h.1;simp only[YG]at this;exact this)));cases hn:nameB r.name with
  | false =>
   clear hn wP;go_wp2;refine Zt (v:=.tuple #[.agg #[.int .i64 0,.slice none 0 0,.slice none 0 0,.slice none 0 0],.agg #[.int .i64 0,.slice none 0 0,.slice none 0 0,.slice none 0 0],.bool false]) (by simp[results,Tryz.results54,go_sem,i1,i2,hne,Jl]) rfl (HZ.out true _ HB.out ?_);exact iU (iU fU (by omega) _ _ _ _) (by omega) _ _ _ _
  | true =>
   clear hn;by_cases hp:p=p'
   ·have hq:¬q=q':=λe=>wP ⟨hp,e⟩;clear wP;go_wp2;refine Zt (v:=.tuple #[.agg #[.int .i64 0,.slice none 0 0,.slice none 0 0,.slice none 0 0],.agg #[.int .i64 0,.slice none 0 0,.slice none 0 0,.slice none 0 0],.bool false]) (by simp[results,Tryz.results54,go_sem,i1,i2,hne,Jl]) rfl (HZ.out true _ HB.out ?_);exact iU (iU fU (by omega) _ _ _ _) (by omega) _ _ _ _
   ·clear wP;go_wp2;refine Zt (v:=.tuple #[.agg #[.int .i64 0,.slice none 0 0,.slice none 0 0,.slice none 0 0],.agg #[.int .i64 0,.slice none 0 0,.slice none 0 0,.slice none 0 0],.bool false]) (by simp[results,Tryz.results54,go_sem,i1,i2,hne,Jl]) rfl (HZ.out true _ HB.out ?_);exact iU (iU fU (by omega) _ _ _ _) (by omega) _ _ _ _
end Go.Proofs.YtkhpobekconobaaGreat
