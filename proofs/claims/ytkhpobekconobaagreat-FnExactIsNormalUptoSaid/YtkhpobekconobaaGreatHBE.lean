import Derived.Test.YtkhpobekconobaaGreatHBD
set_option linter.all false
set_option maxRecDepth 100000
set_option maxHeartbeats 0
namespace Go.Proofs.YtkhpobekconobaaGreat
open Go.RowKit
def Hg (r:dP):Bool:=(bP (bI []) r.left).isSome&&Dp r
structure uj (r:dP):Prop where
 zl:wQ r.left
 zr:wQ r.right
 nm:r.name.size<=1048576
theorem uj.k {r:dP} {x y:W2} (h:uj r) (hl:bP (bI []) r.left=some x) (hr:bP (bI []) r.right=some y):UH r x y:=⟨hl,hr,h.zl.1,h.zr.1,h.nm⟩
theorem akY {r:dP} {x y:W2} (hl:bP (bI []) r.left=some x) (hr:bP (bI []) r.right=some y):Hg r=Dp r:=by unfold Hg;rw[hl];rfl
theorem abq {r:dP} (h:bP (bI []) r.left=none\/bP (bI []) r.right=none):Hg r=false:=by
 unfold Hg;rcases h with h|h
 ·rw[h];rfl
 ·cases hl:bP (bI []) r.left with
  | none=>rfl
  | some x =>
   unfold Dp;rw[hl,h,YH (by simp:¬(some x=(none:Option W2)))];simp
theorem akZ (v:Value) (ns:List Nd) (w:World) (hv:dG w v ns) (aP:wQ ns) :
  Calls Tryz.prog 126 #[.agg #[v]] w λe w'=>∃p q:Int,e=.returned (.tuple #[.agg #[.int .i64 p,.int .i64 q],.bool (bP (bI []) ns).isSome])/\Below w.heap.size w w':=by
 refine(ah2 v ns w hv aP.2 aP.1).mono ?_;rintro e w'⟨x,rfl,hx,hb⟩;rw[ahS ah3];exact⟨x.1,x.2,rfl,hb⟩
theorem ak0 (r:dP) (vl vr:Value) (w:World) (hz:uj r) (hl:dG w vl r.left) (hr:dG w vr r.right) (hn:bP (bI []) r.left=none\/bP (bI []) r.right=none) :
  Calls Tryz.prog 88 #[.agg #[.string r.name,vl,vr]] w (nH false w):=by
 obtain⟨al,cl,rfl⟩:=hl.slice;obtain⟨ar,cr,rfl⟩:=hr.slice;have hA:=aH w (.cells #[.string r.name,.slice al r.left.length cl,.slice ar r.right.length cr] 66);have kI:=Bk.new w 66 #[.string r.name,.slice al r.left.length cl,.slice ar r.right.length cr];have o7:=Za (λu (h:dG u (.slice al r.left.length cl) r.left)=>akZ _ r.left u h hz.zl);have QS:=Za (λu (h:dG u (.slice ar r.right.length cr) r.right)=>akZ _ r.right u h hz.zr);have HL:=Za hl;have HR:=Za hr;have jI:(bP (bI []) r.left).isSome=false\/(bP (bI []) r.right).isSome=false:=by
  rcases hn with h|h<;>rw[h]
  ·exact .inl rfl
  ·exact .inr rfl
 generalize(bP (bI []) r.left).isSome=a at *;generalize(bP (bI []) r.right).isSome=b at *;have HN:=Za jI;clear hn jI hl hr hz;go_enter Tryz.func88,Tryz.ntmps88;go_wp2_with fail
 generalize(w.alloc (.cells #[.string r.name,.slice al r.left.length cl,.slice ar r.right.length cr] 66))=u0 at *;refine(o7.out u0 (HL.out.keep hA)).mono ?_;rintro e u1⟨p,q,rfl,hb1⟩;have aS:=hA.trans (hb1.mono hA.size);replace kI:=kI.keep hb1;obtain⟨iI,-,zI⟩:=kI.cell;clear hA hb1;go_wp2_with fail
 have dU:=aH u1 (.cells #[.int .i64 p,.int .i64 q] 189);have aZ:=aS.trans (dU.mono aS.size);clear iI zI dU aS;generalize(u1.alloc (.cells #[.int .i64 p,.int .i64 q] 189))=u2 at *;generalize u1.heap.size=b3 at *;refine(QS.out u2 (HR.out.keep aZ)).mono ?_;rintro e u3⟨p',q',rfl,hb3⟩;have fU:=aZ.trans (hb3.mono aZ.size);clear hb3 aZ kI;have dV:=aH u3 (.cells #[.int .i64 p',.int .i64 q'] 189);have dZ:=fU.trans (dV.mono fU.size);clear dV;cases a with
 | false =>
  go_wp2;go_ret;exact⟨rfl,dZ⟩
 | true =>
  cases b with
  | false =>
   go_wp2;go_ret;exact⟨rfl,dZ⟩
  | true =>
   rcases HN.out with h|h<;>cases h
theorem asK (r:dP) (vl vr:Value) (w:World) (hz:uj r) (hl:dG w vl r.left) (hr:dG w vr r.right) :
  Calls Tryz.prog 88 #[.agg #[.string r.name,vl,vr]] w (nH (Hg r) w):=by
 cases h1:bP (bI []) r.left with
 | none=>rw[abq (.inl h1)];exact ak0 r vl vr w hz hl hr (.inl h1)
 | some x =>
  cases h2:bP (bI []) r.right with
  | none=>rw[abq (.inr h2)];exact ak0 r vl vr w hz hl hr (.inr h2)
  | some y=>rw[akY h1 h2];exact asC r x y vl vr w (hz.k h1 h2) hl hr
theorem asL (v:Value) (ns:List Nd) (w:World) (hv:dG w v ns) (aP:wQ ns) :
  Calls Tryz.prog 102 #[.agg #[v]] w λe w'=>∃(a0 a1 a2:Option Addr) (n0 c0 n1 c1 n2 c2:Nat),e=.returned (.tuple #[.agg #[.slice a0 n0 c0,.slice a1 n1 c1,.slice a2 n2 c2],.bool (bP (bI []) ns).isSome])/\Below w.heap.size w w':=by
 have uQ:=Za (λ(w1:World) (h1:dG w1 v ns)=>aky (.slice none 0 0) [] v ns w1 (afX w1) (by simp) (by simp) h1 aP);clear aP;obtain⟨av,cap,rfl⟩:=hv.slice;have hB:Below w.heap.size w ((w.alloc (.cells #[.slice av ns.length cap] 64)).alloc (.cells #[.slice none 0 0,.slice none 0 0,.slice none 0 0] 163)):=((Zl _ _).alloc (Zj _) _).alloc (by simp) _;go_enter Tryz.func102,Tryz.ntmps102;go_wp2_with (go_at_call 144;refine(uQ.out _ (hv.keep hB)).mono ?_;rintro e w2⟨a0,n0,c0,a1,n1,c1,a2,n2,c2,rfl,hb2,-⟩;have hs2:=hb2.size;simp only[Zn]at hs2;have q0:=hb2.cell (p:=⟨w.heap.size+1,0,none⟩) (by simp);have q1:=hb2.cell (p:=⟨w.heap.size+1,1,none⟩) (by simp);have q3:=hb2.cell (p:=⟨w.heap.size+1,2,none⟩) (by simp);have q4:∀k,w2.frozen? ⟨w.heap.size+1,k,none⟩=_:=λk=>hb2.frozen (p:=⟨w.heap.size+1,k,none⟩) (by simp);simp[go_sem]at q0 q1 q3 q4;have hz2:w.heap.size+1<w2.heap.size:=(by omega))
 refine Zt (v:=.tuple #[.agg #[.slice a0 n0 c0,.slice a1 n1 c1,.slice a2 n2 c2],.bool (bP (bI []) ns).isSome]) (by simp[results,Tryz.results102,go_sem,q0,q1,q3,hz2]) rfl ⟨a0,a1,a2,n0,c0,n1,c1,n2,c2,rfl,?_⟩;exact((((hB.trans (hb2.mono (by simp;omega))).setCell (by simp) _).setCell (by simp) _).setCell (by simp) _)
theorem asM (v:Value) (ns:List Nd) (w:World) (hv:dG w v ns) (aP:wQ ns) (ht:bP (bI []) ns=none) :
  Calls Tryz.prog 74 #[.agg #[v]] w λe w'=>e=.returned (.tuple #[.int .i64 0,.int .i64 0,.bool false])/\Below w.heap.size w w':=by
 have uQ:=Za (λ(w1:World) (h1:dG w1 v ns)=>(asL v ns w1 h1 aP).mono (R':=λe w'=>∃(a0 a1 a2:Option Addr) (n0 c0 n1 c1 n2 c2:Nat),e=.returned (.tuple #[.agg #[.slice a0 n0 c0,.slice a1 n1 c1,.slice a2 n2 c2],.bool false])/\Below w1.heap.size w1 w') (λe w' h=>by rw[ht]at h;exact h));clear aP ht;obtain⟨av,cap,rfl⟩:=hv.slice;have hA:=aH w (.cells #[.slice av ns.length cap] 64);go_enter Tryz.func74,Tryz.ntmps74;go_wp2_with fail
 generalize(w.alloc (.cells #[.slice av ns.length cap] 64))=u0 at *;refine(uQ.out u0 (hv.keep hA)).mono ?_;rintro e u1⟨a0,a1,a2,n0,c0,n1,c1,n2,c2,rfl,hb⟩;have hB:=hA.trans (hb.mono hA.size);have aZ:=hB.trans ((aH u1 (.cells #[.slice a0 n0 c0,.slice a1 n1 c1,.slice a2 n2 c2] 163)).mono hB.size);clear hA hb hv uQ;go_wp2;go_ret3;exact⟨rfl,aZ⟩
def Lm (ns:List Nd):Int×Int×Bool:=match bP (bI []) ns with
 | some t=>(t.1,t.2,true)
 | none=>(0,0,false)
theorem ak1 (v:Value) (ns:List Nd) (w:World) (hv:dG w v ns) (aP:wQ ns) :
  Calls Tryz.prog 74 #[.agg #[v]] w λe w'=>e=.returned (.tuple #[.int .i64 (Lm ns).1,.int .i64 (Lm ns).2.1,.bool (Lm ns).2.2])/\Below w.heap.size w w':=by
 unfold Lm;cases h:bP (bI []) ns with
 | none=>exact asM v ns w hv aP h
 | some t=>exact afY v ns t w hv aP h
def SdT (r:dP) (w:World) (e:Ending) (w':World):Prop:=∃(g h:aF) (a1:Option Addr) (c1:Nat) (a2:Option Addr) (c2:Nat) (a3:Option Addr) (c3:Nat) (b1:Option Addr) (d1:Nat) (b2:Option Addr) (d2:Nat) (b3:Option Addr) (d3:Nat),
 e=.returned (.tuple #[.agg #[.int .i64 g.aB,.slice a1 g.ah.length c1,.slice a2 g.aj.length c2,.slice a3 g.ay.length c3],.agg #[.int .i64 h.aB,.slice b1 h.ah.length d1,.slice b2 h.aj.length d2,.slice b3 h.ay.length d3],.bool (Hg r)]) /\
 (Hg r=true->lS r.left=some g/\lS r.right=some h)/\Below w.heap.size w w'
theorem asN (r:dP) (vl vr:Value) (w:World) (hz:uj r) (hl:dG w vl r.left) (hr:dG w vr r.right) (hn:bP (bI []) r.left=none\/bP (bI []) r.right=none) :
  Calls Tryz.prog 54 #[.agg #[.string r.name,vl,vr]] w (λe w'=>e=.returned (.tuple #[.agg #[.int .i64 0,.slice none 0 0,.slice none 0 0,.slice none 0 0],.agg #[.int .i64 0,.slice none 0 0,.slice none 0 0,.slice none 0 0],.bool false])/\Below w.heap.size w w'):=by
 obtain⟨al,cl,rfl⟩:=hl.slice;obtain⟨ar,cr,rfl⟩:=hr.slice;have aQ:=aH w (.cells #[.string r.name,.slice al r.left.length cl,.slice ar r.right.length cr] 66);have aT:=aH (w.alloc (.cells #[.string r.name,.slice al r.left.length cl,.slice ar r.right.length cr] 66)) (.cells #[.int .i64 0,.slice none 0 0,.slice none 0 0,.slice none 0 0] 33);have dU:=aH ((w.alloc (.cells #[.string r.name,.slice al r.left.length cl,.slice ar r.right.length cr] 66)).alloc (.cells #[.int .i64 0,.slice none 0 0,.slice none 0 0,.slice none 0 0] 33)) (.cells #[.int .i64 0,.slice none 0 0,.slice none 0 0,.slice none 0 0] 33);have hA:=aQ.trans ((aT.mono aQ.size).trans (dU.mono (by simp;omega)));have kI:=((Bk.new w 66 #[.string r.name,.slice al r.left.length cl,.slice ar r.right.length cr]).keep aT).keep dU;have k1:=(Bk.new (w.alloc (.cells #[.string r.name,.slice al r.left.length cl,.slice ar r.right.length cr] 66)) 33 #[.int .i64 0,.slice none 0 0,.slice none 0 0,.slice none 0 0]).keep dU;have k2:=Bk.new ((w.alloc (.cells #[.string r.name,.slice al r.left.length cl,.slice ar r.right.length cr] 66)).alloc (.cells #[.int .i64 0,.slice none 0 0,.slice none 0 0,.slice none 0 0] 33)) 33 #[.int .i64 0,.slice none 0 0,.slice none 0 0,.slice none 0 0];simp only[Zn]at k1 k2;clear aQ aT dU;have o7:=Za (λu (h:dG u (.slice al r.left.length cl) r.left)=>ak1 _ r.left u h hz.zl);have QS:=Za (λu (h:dG u (.slice ar r.right.length cr) r.right)=>ak1 _ r.right u h hz.zr);have HN:=Za (λu=>ahi r.name u hz.nm);have jI:(Lm r.left).2.2=false\/(Lm r.right).2.2=false:=by
  unfold Lm;rcases hn with h|h
  ·rw[h];exact .inl rfl
  ·rw[h];exact .inr rfl
 generalize Lm r.left=x at *;generalize Lm r.right=y at *;obtain⟨p,q,a⟩:=x;obtain⟨p',q',b⟩:=y;generalize nameB r.name=nb at *;have HO:=Za jI;have HL:=Za hl;have HR:=Za hr;clear hn jI hl hr hz;dsimp only at *;go_enter Tryz.func54,Tryz.ntmps54;go_wp2_with fail
 generalize(((w.alloc (.cells #[.string r.name,.slice al r.left.length cl,.slice ar r.right.length cr] 66)).alloc (.cells #[.int .i64 0,.slice none 0 0,.slice none 0 0,.slice none 0 0] 33)).alloc (.cells #[.int .i64 0,.slice none 0 0,.slice none 0 0,.slice none 0 0] 33))=u0 at *;refine(o7.out u0 (HL.out.keep hA)).mono ?_;rintro e u1⟨rfl,hb1⟩;have aS:=hA.trans (hb1.mono hA.size);replace kI:=kI.keep hb1;replace k1:=k1.keep hb1;replace k2:=k2.keep hb1;obtain⟨iI,-,zI⟩:=kI.cell;clear hA hb1;go_wp2_with fail
 refine(QS.out u1 (HR.out.keep aS)).mono ?_;rintro e u2⟨rfl,hb2⟩;have aZ:=aS.trans (hb2.mono aS.size);replace kI:=kI.keep hb2;replace k1:=k1.keep hb2;replace k2:=k2.keep hb2;clear iI zI hb2 aS;obtain⟨iI,-,zI⟩:=kI.cell;go_wp2_with fail
 refine(HN.out u2).mono ?_;rintro e u3⟨rfl,hb3⟩;have fU:=aZ.trans (hb3.mono aZ.size);replace k1:=k1.keep hb3;replace k2:=k2.keep hb3;clear iI zI hb3 aZ kI;obtain⟨i1,f1,z1⟩:=k1.cell;obtain⟨i2,f2,z2⟩:=k2.cell;have hne:¬w.heap.size+1=w.heap.size+1+1:=by omega
 have Jl:¬w.heap.size+1+1=w.heap.size+1:=by omega
 have HB3:=Za fU;clear fU;have adl:a=false\/b=false:=HO.out;clear HO;cases nb with
 | false =>
  clear adl;go_wp2;refine Zt (v:=.tuple #[.agg #[.int .i64 0,.slice none 0 0,.slice none 0 0,.slice none 0 0],.agg #[.int .i64 0,.slice none 0 0,.slice none 0 0,.slice none 0 0],.bool false]) (by simp[results,Tryz.results54,go_sem,i1,i2,hne,Jl]) rfl ⟨rfl,?_⟩;exact iU (iU HB3.out (by omega) _ _ _ _) (by omega) _ _ _ _
 | true =>
  cases a with
  | false =>
   clear adl;go_wp2;refine Zt (v:=.tuple #[.agg #[.int .i64 0,.slice none 0 0,.slice none 0 0,.slice none 0 0],.agg #[.int .i64 0,.slice none 0 0,.slice none 0 0,.slice none 0 0],.bool false]) (by simp[results,Tryz.results54,go_sem,i1,i2,hne,Jl]) rfl ⟨rfl,?_⟩;exact iU (iU HB3.out (by omega) _ _ _ _) (by omega) _ _ _ _
  | true =>
   cases b with
   | false =>
    clear adl;go_wp2;refine Zt (v:=.tuple #[.agg #[.int .i64 0,.slice none 0 0,.slice none 0 0,.slice none 0 0],.agg #[.int .i64 0,.slice none 0 0,.slice none 0 0,.slice none 0 0],.bool false]) (by simp[results,Tryz.results54,go_sem,i1,i2,hne,Jl]) rfl ⟨rfl,?_⟩;exact iU (iU HB3.out (by omega) _ _ _ _) (by omega) _ _ _ _
   | true=>rcases adl with h|h<;>cases h
theorem asO (r:dP) (vl vr:Value) (w:World) (hz:uj r) (hl:dG w vl r.left) (hr:dG w vr r.right) :
  Calls Tryz.prog 54 #[.agg #[.string r.name,vl,vr]] w (SdT r w):=by
 have hN:∀(h:bP (bI []) r.left=none\/bP (bI []) r.right=none),Calls Tryz.prog 54 #[.agg #[.string r.name,vl,vr]] w (SdT r w):=λh=>by
  refine(asN r vl vr w hz hl hr h).mono ?_;rintro e w'⟨rfl,hb⟩;have hf:=abq h;exact⟨⟨0,[],[],[]⟩,⟨0,[],[],[]⟩,none,0,none,0,none,0,none,0,none,0,none,0,by rw[hf];rfl,(by rw[hf];intro h;cases h),hb⟩
 cases h1:bP (bI []) r.left with
 | none=>exact hN (.inl h1)
 | some x =>
  cases h2:bP (bI []) r.right with
  | none=>exact hN (.inr h2)
  | some y =>
   refine(akW r x y vl vr w (hz.k h1 h2) hl hr).mono ?_;rintro e w'⟨g,h,a1,c1,a2,c2,a3,c3,b1,d1,b2,d2,b3,d3,rfl,-,-,h5,hb⟩;have hf:=akY h1 h2;exact⟨g,h,a1,c1,a2,c2,a3,c3,b1,d1,b2,d2,b3,d3,by rw[hf],by rw[hf];exact h5,hb⟩
open Go.Maps
theorem asP (k v:Int) (s:ByteArray) (left:Int) (w:World) (hs:s.size<=1048576) (h0:0<=left) (h1:left<=1048576) :
  Calls Tryz.prog 101 #[.agg #[.int .i64 k,.int .i64 v,.string s],.int .i64 left] w (J9 left w):=by
 go_enter Tryz.func101,Tryz.ntmps101;go_wp2
 ·go_ret;exact⟨_,rfl,by omega,by omega,(Zl _ _).alloc (Zj _) _⟩
 ·go_ret;exact⟨_,rfl,by omega,by omega,(Zl _ _).alloc (Zj _) _⟩
theorem asQ (v:Value) (ns:List Nd) (left:Int) (w:World) (hv:dG w v ns) (hs:∀d∈ns,d.name.size<=1048576) (hn:ns.length<=1048576) (h0:0<=left) (h1:left<=1048576) :
  Calls Tryz.prog 72 #[v,.int .i64 left] w (J9 left w):=by
 obtain⟨a,cap,rfl,hc,hat⟩:=hv;go_enter Tryz.func72,Tryz.ntmps72;go_wp2
 ·go_ret;exact⟨_,rfl,by omega,by omega,Zl _ _⟩
 ·go_loopw [1,5] (λl i wr=>∃(k:Nat) (r:Int),k<=ns.length/\i=.int .i64 k/\l=.int .i64 r/\0<=r/\r<=left/\Below w.heap.size w wr) (λ_ i _=>ns.length-(intOf i).toNat)
  case atStart=>exact⟨0,_,Zw _,rfl,rfl,by omega,by omega,Zl _ _⟩
  case round =>
   obtain⟨k,r,hk,rfl,rfl,sJ,hr1,aI⟩:=hrel;by_cases hlt:k<ns.length
   ·obtain⟨b,o,rfl,_,dI⟩:=hat k hlt;have Il:=dI.keep aI;obtain⟨c0,c1,c2⟩:=Il;have hsz:=hs ns[k] (Zp _);clear hat dI hs;go_wp2_with (go_at_call 101;refine(asP _ _ _ _ _ hsz (by omega) (by omega)).mono ?_;rintro e w'⟨r',rfl,q0,q1,hb2⟩)
    ·go_ret;exact⟨_,rfl,by omega,by omega,aI.trans (hb2.mono (by have:=aI.size;omega))⟩
    ·go_roundw
     case rel=>exact⟨k+1,_,by omega,by go_num,rfl,by omega,by omega,aI.trans (hb2.mono (by have:=aI.size;omega))⟩
     case measure=>simp[intOf];omega
   ·go_wp2;go_ret;exact⟨_,rfl,by omega,by omega,aI⟩
theorem ak2 (v:Value) (ns:List Nd) (left:Int) (w:World) (hv:dG w v ns) (aP:wQ ns) (h0:0<=left) (h1:left<=1048576) :
  Calls Tryz.prog 51 #[.agg #[v],.int .i64 left] w (J9 left w):=by
 obtain⟨a,cap,rfl⟩:=hv.slice;go_enter Tryz.func51,Tryz.ntmps51;go_wp2_with (go_at_call 72;refine(asQ _ ns _ _ (hv.keep ((Zl _ _).alloc (Zj _) _)) aP.1 aP.2 (by omega) (by omega)).mono ?_;rintro e w'⟨r',rfl,q0,q1,hb2⟩)
 all_goals
  go_ret;exact⟨_,rfl,by omega,by omega,((Zl _ _).alloc (Zj _) _).trans (hb2.mono (by simp))⟩
theorem asR (r:dP) (vl vr:Value) (left:Int) (w:World) (hz:uj r) (hl:dG w vl r.left) (hr:dG w vr r.right) (h0:0<=left) (h1:left<=1048576) :
  Calls Tryz.prog 29 #[.agg #[.string r.name,vl,vr],.int .i64 left] w (J9 left w):=by
 obtain⟨al,cl,rfl⟩:=hl.slice;obtain⟨ar,cr,rfl⟩:=hr.slice;have hB:=aH w (.cells #[.string r.name,.slice al r.left.length cl,.slice ar r.right.length cr] 57);have kb:=Bk.new w 57 #[.string r.name,.slice al r.left.length cl,.slice ar r.right.length cr];have H1:=Za (λ(u:World) (hu:Below w.heap.size w u) (l:Int) (a:0<=l) (b:l<=1048576)=>ak2 _ r.left l u (hl.keep hu) hz.zl a b);have H2:=Za (λ(u:World) (hu:Below w.heap.size w u) (l:Int) (a:0<=l) (b:l<=1048576)=>ak2 _ r.right l u (hr.keep hu) hz.zr a b);have lu:=hz.nm;clear hl hr;generalize r.left.length=nl at *;generalize r.right.length=nr at *;generalize r.name=nm at *;by_cases awq:left-(nm.size:Int)<0
 ·go_enter Tryz.func29,Tryz.ntmps29;go_wp2;go_ret;exact⟨_,rfl,by omega,by omega,hB⟩
 go_enter Tryz.func29,Tryz.ntmps29;go_wp2_with fail
 generalize(w.alloc (.cells #[.string nm,.slice al nl cl,.slice ar nr cr] 57))=u0 at *;refine(H1.out _ hB _ (by omega) (by omega)).mono ?_;rintro e w2⟨r2,rfl,q0,q1,hb2⟩;have kb2:=kb.keep hb2;have aZ:=hB.trans (hb2.mono hB.size);have b2:=kb2.cell.1 2;have bz:=kb2.lt;simp only[Ze,Zc,Zd]at b2;clear kb hb2 hB;by_cases Bd:r2<0
 ·go_wp2;go_ret;exact⟨_,rfl,by omega,by omega,aZ⟩
 go_wp2_with fail
 refine(H2.out _ aZ _ (by omega) (by omega)).mono ?_;rintro e w3⟨r3,rfl,q2,q3,hb3⟩;have fU:=aZ.trans (hb3.mono aZ.size);by_cases awr:r3<0
 ·go_wp2;go_ret;exact⟨_,rfl,by omega,by omega,fU⟩
 go_wp2;go_ret;exact⟨_,rfl,by omega,by omega,fU⟩
theorem asT (v:Value) (L:List dP) (left:Int) (w:World) (hv:qQ w v L) (hs:∀d∈L,uj d) (hn:L.length<=1048576) (h0:0<=left) (h1:left<=1048576) :
  Calls Tryz.prog 8 #[v,.int .i64 left] w (J9 left w):=by
 obtain⟨a,cap,rfl,hc,hat⟩:=hv;go_enter Tryz.func8,Tryz.ntmps8;go_wp2
 ·go_ret;exact⟨_,rfl,by omega,by omega,Zl _ _⟩
 ·go_loopw [1,5] (λl i wr=>∃(k:Nat) (r:Int),k<=L.length/\i=.int .i64 k/\l=.int .i64 r/\0<=r/\r<=left/\Below w.heap.size w wr) (λ_ i _=>L.length-(intOf i).toNat)
  case atStart=>exact⟨0,_,Zw _,rfl,rfl,by omega,by omega,Zl _ _⟩
  case round =>
   obtain⟨k,r,hk,rfl,rfl,sJ,hr1,aI⟩:=hrel;by_cases hlt:k<L.length
   ·obtain⟨b,o,rfl,_,dI⟩:=hat k hlt;obtain⟨c0,vl,vr,c1,c2,yN,hgr⟩:=dI.keep aI;obtain⟨al,cl,rfl⟩:=yN.slice;obtain⟨ar,cr,rfl⟩:=hgr.slice;have hsz:=hs L[k] (Zp _);clear hat dI hs;have HC:=Za (asR L[k] _ _ r wr hsz yN hgr (by omega) (by omega));generalize L[k].left.length=n1 at *;generalize L[k].right.length=n2 at *;generalize L[k].name=nm at *;clear yN hgr hsz;go_wp2_with fail
    refine HC.out.mono ?_;rintro e w'⟨r',rfl,q0,q1,hb2⟩;clear c0 c1 c2;by_cases Bd:r'<0
    ·go_wp2;go_ret;exact⟨_,rfl,by omega,by omega,aI.trans (hb2.mono (by have:=aI.size;omega))⟩
    ·go_wp2;go_roundw
     case rel=>exact⟨k+1,_,by omega,by go_num,rfl,by omega,by omega,aI.trans (hb2.mono (by have:=aI.size;omega))⟩
     case measure=>simp[intOf];omega
   ·go_wp2;go_ret;exact⟨_,rfl,by omega,by omega,aI⟩
def asU (w:World) (g:KN) (b o:Nat):Prop :=
 w.cell? ⟨b,o,none⟩=some (.int .i64 g.kind)/\w.cell? ⟨b,o+1,none⟩=some (.int .i64 g.a)/\w.cell? ⟨b,o+2,none⟩=some (.int .i64 g.b)/\w.cell? ⟨b,o+3,none⟩=some (.int .i64 g.value)
def awt (w:World) (v:Value) (gs:List KN):Prop:=nD 4 v gs.length λi b o=>∃h:i<gs.length,asU w gs[i] b o
def gt0:KN:=⟨0,0,0,0⟩
def asV (ks:List Int) (dn:List Bool):Bool:=ks.all λk=>dn.getD k.toNat true
def frB (nd:List (List Int)) (dn:List Bool) (i:Nat):Bool:=!(dn.getD i true)&&asV (nd.getD i []) dn
def nxt (nd:List (List Int)) (dn:List Bool) (k:Nat):Option Nat:=(List.range k).find? (frB nd dn)
def abr (nd:List (List Int)):Nat->List Bool->List Int
 | 0,_=>[]
 | f+1,dn=>match nxt nd dn dn.length with
  | none=>[]
  | some i=>(i:Int)::abr nd f (dn.set i true)
def um (w:World) (g:Nat) (bs:List Bool):Prop:=Bk w g 4 (bs.map Value.bool).toArray
theorem um.get {w:World} {g:Nat} {bs:List Bool} (h:um w g bs) (i:Nat) (hi:i<bs.length):w.cell? ⟨g,i,none⟩=some (.bool bs[i]):=by
 rw[Bk.cell h |>.1 i];simp[hi]
theorem um.set {w:World} {g:Nat} {bs:List Bool} (h:um w g bs) (i:Nat) (b:Bool):um (w.setCell ⟨g,i,none⟩ (.bool b)) g (bs.set i b):=by
 have:=Bk.set h i (.bool b);unfold um;rw[List.map_set];simpa using this
theorem um.frz {w:World} {g:Nat} {bs:List Bool} (h:um w g bs) (j:Nat):w.frozen? ⟨g,j,none⟩=false:=(Bk.cell h).2.1 j
theorem um.lt {w:World} {g:Nat} {bs:List Bool} (h:um w g bs):g<w.heap.size:=Bk.lt h
theorem um.keep {w w':World} {g:Nat} {bs:List Bool} (hb:Below w.heap.size w w') (h:um w g bs):um w' g bs:=Bk.keep hb h
theorem asW {w:World} {B g n:Nat} {bs:List Bool} (hl:bs.length=n) (h:w.ownsRow B 4 1 (.slice (some ⟨g,0,none⟩) n n) n (bs.flatMap nN)):um w g bs:=by
 rcases h.2 with⟨e,_⟩|⟨g',cap,cur,e,hB,hg,h1,h2,h3,h4⟩
 ·simp at e
 ·simp only[Zx,ZQ,Xm,WG,Wh]at e;obtain⟨rfl,rfl⟩:=e;have h5:bs.flatMap nN=bs.map Value.bool:=by
   clear h h4 hl h1;induction bs with
   | nil=>rfl
   | cons b r ih=>simp[nN,ih]
  rw[h5,ZX (by rw[Wp,h3];exact Zj _)]at h4;show w.heap[g]?=some (.cells (bs.map Value.bool).toArray 4);rw[hg,<-h4]
def asX (xs ys:List Int):Bool:=xs.any λw=>decide (w∈ys)
def ed0:aO:=⟨0,0,[],[]⟩
def asY (E:List aO) (f:aO):List Int:=((List.range E.length).filter λe=>asX (E.getD e ed0).ay f.aj).map λi:Nat=>(i:Int)
structure awu (w:World) (nd:List (List Int)) (n:Nat) (d0:List Bool) (t:TypeId) (cs:Array Value) (G:Nat) (wr:World) (rv:Value) (out:List Int) (dn:List Bool):Prop where
 kc:Bk wr w.heap.size t cs
 bk:um wr G dn
 row:Rw wr w.heap.size rv out
 bel:Below w.heap.size w wr
 len:dn.length=n
 eq:abr nd (n+1) d0=out++abr nd (n+1-out.length) dn
 cnt:out.length+dn.count false<=n
def Lr (p:Int->Bool) (zs:List Int):Int:=match zs.findIdx? p with
 | some i=>i
 | none=>-1
theorem ak3 {p:Int->Bool} {zs:List Int} {k:Nat} (hk:k<zs.length) (h:∀j,∀h:j<zs.length,j<k->p (zs[j]'h)=false) (hp:p zs[k]=true):Lr p zs=k:=by
 unfold Lr;have:zs.findIdx? p=some k:=by
  rw[Vy];exact⟨hk,hp,λj hj=>by rw[h j (by omega) hj];simp⟩
 rw[this]
theorem ak4 {p:Int->Bool} {zs:List Int} (h:∀j,∀h:j<zs.length,p (zs[j]'h)=false):Lr p zs=-1:=by
 unfold Lr;have:zs.findIdx? p=none:=by
  rw[VQ];intro x hx;obtain⟨j,hj,rfl⟩:=Yl.1 hx;exact h j hj
 rw[this]
theorem asZ (p:Int->Bool) (zs:List Int):(0<=Lr p zs)↔zs.any p=true:=by
 unfold Lr;cases h:zs.findIdx? p with
 | some i =>
  obtain⟨hi,hp,_⟩:=Vy.1 h;simp only[Int.natCast_nonneg,true_iff];exact XA.2 ⟨_,Zp hi,hp⟩
 | none =>
  rw[VQ]at h;constructor
  ·intro h0;simp at h0
  ·intro h1;obtain⟨x,hx,hp⟩:=XA.1 h1;rw[h x hx]at hp;cases hp
structure awv (W0 w:World) (nd:List (List Int)) (n:Nat) (na:Option Addr) (nc Nb Lb G:Nat) (wr:World) (rv:Value) (out:List Int) (dn:List Bool):Prop where
 nb:Bk wr Nb 142 #[.slice na nd.length nc]
 ex:aC (λk=>k=G) W0 wr
 lb:Bk wr Lb 149 #[.slice (some ⟨G,0,none⟩) n n]
 bk:um wr G dn
 row:Rw wr W0.heap.size rv out
 bel:Below w.heap.size w wr
 len:dn.length=n
 eq:abr nd (n+1) (List.replicate n false)=out++abr nd (n+1-out.length) dn
 cnt:out.length+dn.count false<=n
def out1 (e:aO):Int:=e.ay.getD 1 0
theorem getD_set_ne {l:List Int} {i j:Nat} {v d:Int} (h:¬j=i):(l.set j v).getD i d=l.getD i d:=by rw[Zg,Xt h,<-Zg]
def gNo (gs:List KN) (k:Int):KN:=gs.getD k.toNat gt0
def aww (out:List Int) (k:Int):List Int:=if k∈out then out else out++[k]
structure awx (gs:List KN) (out:List Int):Prop where
 nd:out.Nodup
 rg:∀z∈out,0<=z/\z<gs.length
 cl:∀j,∀hj:j<out.length,∀z∈aq1 (gNo gs out[j]),z∈out.take j
structure InI where
 op:Int
 r:Int
 a:Int
 b:Int
 value:Int
 deriving DecidableEq
def as1 (w:World) (i:InI) (b o:Nat):Prop :=
 w.cell? ⟨b,o,none⟩=some (.int .i64 i.op)/\w.cell? ⟨b,o+1,none⟩=some (.int .i64 i.r)/\w.cell? ⟨b,o+2,none⟩=some (.int .i64 i.a)/\w.cell? ⟨b,o+3,none⟩=some (.int .i64 i.b)/\w.cell? ⟨b,o+4,none⟩=some (.int .i64 i.value)
def awy (w:World) (v:Value) (is:List InI):Prop:=nD 5 v is.length λi b o=>∃h:i<is.length,as1 w is[i] b o
abbrev EgV:=aO×Value×Value
def as2 (x:EgV):List Value:=[.int .i64 x.1.kind,.int .i64 x.1.value,x.2.1,x.2.2]
def as3 (w:World) (x:EgV):Prop:=aU w x.2.1 x.1.aj/\aU w x.2.2 x.1.ay
structure EvR (w0 w:World) (B:Nat) (v:Value) (xs:List EgV):Prop where
 row:w.ownsRow B 102 4 v xs.length (xs.flatMap as2)
 els:∀x∈xs,as3 w0 x
theorem af2:Keyed Tryz.prog 3:=int_keyed Tryz.underlying3
theorem as4 (w:World):(zeroValue 4).run Tryz.prog w=.ok (.bool false) w:=by kernel_rfl
theorem as5 (w:World):(zeroValue 3).run Tryz.prog w=.ok (.int .i64 0) w:=by kernel_rfl
def kI (i:Int):Lit:=.int .i64 i
theorem ak5 {i:Int} (h0:-1000000<=i) (h:i<=1000000):(Lit.int .i64 i).wf=true :=
  WalkArith.wf_i64 (by omega)
theorem ak6 {i:Int} (h0:-1000000<=i) (h:i<=1000000):keyOf Tryz.prog 3 (.int .i64 i)=some (kI i):=keyOf_int_mk Tryz.underlying3 (ak5 h0 h)
theorem ak7 (i:Int):WideAt.IsKeyLit (kI i):=trivial
theorem ak8 {i j:Int} (h:¬i=j):kI i≠kI j:=λe=>h (by unfold kI at e;simpa using e)
structure MbI (D:DataW Unit) (dn:List Bool):Prop where
 has:∀i:Nat,Maps.has D (kI i)=!(dn.getD i true)
 val:∀i:Nat,D.atKey (kI i) (.lit (.bool false))=.lit (.bool (!(dn.getD i true)))
 size:Maps.size D=dn.count false
def MbB (w:World) (b n:Nat) (dn:List Bool):Prop:=∃D,w.ownsMap Tryz.prog 3 (plainElem (H:=Unit) Tryz.prog 4) b n D/\MbI D dn
def MnI (D:DataW Unit) (reg:List Int) (ks:List Int):Prop:=∀k∈ks,D.atKey (kI k) (.lit (.int .i64 0))=.lit (.int .i64 (reg.getD k.toNat (-1)))
def MnB (w:World) (b n:Nat) (reg ks:List Int):Prop:=∃D,w.ownsMap Tryz.prog 3 (plainElem (H:=Unit) Tryz.prog 3) b n D/\MnI D reg ks
theorem l9.mono {w:World} {B B':Nat} {xs:List (Value×List Int)} (hB:B'<=B) (h:l9 w B xs):l9 w B' xs:=⟨λx hx=>(h.1 x hx).mono hB,h.2⟩
theorem l9.sub {w:World} {B:Nat} {xs ys:List (Value×List Int)} (hs:ys.Sublist xs) (h:l9 w B xs):l9 w B ys:=⟨λx hx=>h.1 x (hs.subset hx),h.2.sublist hs⟩
theorem l9.perm {w:World} {B:Nat} {xs ys:List (Value×List Int)} (hs:xs.Perm ys) (h:l9 w B xs):l9 w B ys :=
 ⟨λx hx=>h.1 x (hs.mem_iff.2 hx),(hs.pairwise_iff λ{a b} hab j h1 h2=>hab j h2 h1).1 h.2⟩
theorem l9.new {w w':World} {B C:Nat} {xs:List (Value×List Int)} {v:Value} {z:List Int} (h:l9 w B xs) (hb:Below w.heap.size w w') (hr:Rw w' C v z) (hC:w.heap.size<=C) (hB:B<=w.heap.size):l9 w' B ((v,z)::xs):=by
 refine⟨λx hx=>?_,Yd.2 ⟨λy hy j h1 h2=>?_,h.2⟩⟩
 ·rcases ZU.1 hx with rfl|hx
  ·exact hr.mono (ZI hB hC)
  ·exact(h.1 x hx).keep hb
 ·have a:=(Zh hr j h1).1;have b:=(Zh (h.1 y hy) j h2).2;omega
theorem l9.set {w:World} {B:Nat} {xs:List (Value×List Int)} {v:Value} {z z':List Int} {a:Addr} {u:Value} (h:l9 w B ((v,z)::xs)) (ha:v.ownBlock=some a.block) (hr:Rw (w.setCell a u) B v z'):l9 (w.setCell a u) B ((v,z')::xs):=by
 obtain⟨h1,h2⟩:=h;rw[Yd]at h2;refine⟨λx hx=>?_,Yd.2 ⟨λy hy=>h2.1 y hy,h2.2⟩⟩;rcases ZU.1 hx with rfl|hx
 ·exact hr
 ·exact eP (h1 x (by simp[hx])) a u λe=>h2.1 x hx _ ha e
theorem l9.exc {w w':World} {B:Nat} {xs:List (Value×List Int)} {v:Value} {z z':List Int} (h:l9 w B ((v,z)::xs)) (hE:aC (Nh v) w w') (hr:Rw w' B v z'):l9 w' B ((v,z')::xs):=by
 obtain⟨h1,h2⟩:=h;rw[Yd]at h2;refine⟨λx hx=>?_,Yd.2 ⟨λy hy=>h2.1 y hy,h2.2⟩⟩;rcases ZU.1 hx with rfl|hx
 ·exact hr
 ·exact xZ hE (h1 x (by simp[hx])) λk hk e=>h2.1 x hx k e hk
theorem l9.af4 {w w':World} {B C n:Nat} {xs:List (Value×List Int)} {v:Value} {es:List Value} (h:l9 w B xs) (hv:w.ownsRow C 102 4 v n es) (hg:w.grownBy w' v.ownBlock):l9 w' B xs :=
 ⟨λx hx=>(h.1 x hx).grown hg λk hk e=>wC (h.1 x hx) hv (by decide) k hk e,h.2⟩
theorem ak9 {w:World} {b:Nat} {z:Int} (h:w.heap[b]?=some (.cells #[.int .i64 z] 3)):aU w (.slice (some ⟨b,0,none⟩) 1 1) [z]:=by
 refine⟨_,_,rfl,Zj _,λi hi=>⟨_,_,rfl,hi,?_⟩⟩;obtain rfl:i=0:=by simpa using hi
 exact(Bk.cell (w:=w) h).1 0
theorem as6 {α:Type} (a b c d e:α):[a,b,c,d,e].Perm [e,d,a,b,c]:=(WU (l₁:=[a,b,c]) (l₂:=[d,e])).trans (Vi _ _ _)
def qA (xs:List fF):List (Value×List Int):=xs.flatMap λy=>[(y.2.1,y.1.aj),(y.2.2,y.1.ay)]
theorem ala (xs ys:List fF):qA (xs++ys)=qA xs++qA ys:=ZL
structure fV (w:World) (B:Nat) (ve:Value) (xs:List fF) (l:List (Value×List Int)):Prop where
 row:w.ownsRow B 102 4 ve xs.length (xs.flatMap nK)
 rws:l9 w B (l++qA xs)
theorem fV.keep {w w':World} {B:Nat} {ve:Value} {xs:List fF} {l:List (Value×List Int)} (h:fV w B ve xs l) (hb:Below w.heap.size w w'):fV w' B ve xs l:=⟨jL hb h.row,h.rws.keep hb⟩
theorem fV.mono {w:World} {B B':Nat} {ve:Value} {xs:List fF} {l:List (Value×List Int)} (h:fV w B ve xs l) (hB:B'<=B):fV w B' ve xs l:=⟨FD hB h.row,h.rws.mono hB⟩
theorem fV.get {w:World} {B:Nat} {ve:Value} {xs:List fF} {l:List (Value×List Int)} (h:fV w B ve xs l) {p:Value×List Int} (hp:p∈l):Rw w B p.1 p.2:=h.rws.1 p (by simp[hp])
theorem fV.wL {w:World} {B:Nat} {ve:Value} {xs:List fF} {l:List (Value×List Int)} (h:fV w B ve xs l):mO w B ve xs :=
 ⟨h.row,λy hy=>⟨h.rws.1 (y.2.1,y.1.aj) (Zs.2 (.inr (Z6.2 ⟨y,hy,by simp⟩))),h.rws.1 (y.2.2,y.1.ay) (Zs.2 (.inr (Z6.2 ⟨y,hy,by simp⟩)))⟩⟩
theorem fV.sub {w:World} {B:Nat} {ve:Value} {xs:List fF} {l l':List (Value×List Int)} (h:fV w B ve xs l) (hs:l'.Sublist l):fV w B ve xs l':=⟨h.row,h.rws.sub (hs.append (XL _))⟩
theorem fV.perm {w:World} {B:Nat} {ve:Value} {xs:List fF} {l l':List (Value×List Int)} (h:fV w B ve xs l) (hs:l.Perm l'):fV w B ve xs l':=⟨h.row,h.rws.perm (hs.append_right _)⟩
theorem fV.setB {w:World} {B b:Nat} {ve:Value} {xs:List fF} {l:List (Value×List Int)} {t:TypeId} {cs:Array Value} (h:fV w B ve xs l) (kb:Bk w b t cs) (h1:102≠t) (h2:3≠t) (j:Nat) (u:Value):fV (w.setCell ⟨b,j,none⟩ u) B ve xs l :=
 ⟨eP h.row _ _ (cO h.row kb h1),h.rws.setB kb h2 j u⟩
theorem fV.low {w:World} {B:Nat} {ve:Value} {xs:List fF} {l:List (Value×List Int)} (h:fV w B ve xs l) {a:Addr} (ha:a.block<B) (u:Value):fV (w.setCell a u) B ve xs l :=
 ⟨eP h.row _ _ (λe=>by have:=(Zh h.row _ e).1;omega),⟨λx hx=>eP (h.rws.1 x hx) _ _ (λe=>by have:=(Zh (h.rws.1 x hx) _ e).1;omega),h.rws.2⟩⟩
theorem fV.app {w w':World} {B:Nat} {ve v v':Value} {xs:List fF} {z z':List Int} (pre:List (Value×List Int)) {post:List (Value×List Int)} (h:fV w B ve xs (pre++(v,z)::post)) (hg:w.grownBy w' v.ownBlock) (hr:Rw w' B v' z') (hv:v'.ownBlock=v.ownBlock\/v'.ownBlock=some w.heap.size) :
  fV w' B ve xs (pre++(v',z')::post):=by
 have h0:Rw w B v z:=h.get (p:=(v,z)) (by simp);refine⟨aaS h.row hg λk hk e=>wC h.row h0 (by decide) k hk e,?_⟩;have h1:=h.rws;rw[Zz,Xb]at h1 ⊢;exact h1.app hg hr hv
theorem fV.set {w:World} {B:Nat} {ve v:Value} {xs:List fF} {z z':List Int} {post:List (Value×List Int)} {a:Addr} {u:Value} (h:fV w B ve xs ((v,z)::post)) (ha:v.ownBlock=some a.block) (hr:Rw (w.setCell a u) B v z'):fV (w.setCell a u) B ve xs ((v,z')::post):=by
 have h0:Rw w B v z:=h.get (p:=(v,z)) (by simp);refine⟨eP h.row _ _ λe=>wC h.row h0 (by decide) _ e ha,?_⟩;have h1:=h.rws;rw[Xb]at h1 ⊢;exact h1.set ha hr
theorem fV.exc {w w':World} {B:Nat} {ve v:Value} {xs:List fF} {z z':List Int} {post:List (Value×List Int)} (h:fV w B ve xs ((v,z)::post)) (hE:aC (Nh v) w w') (hr:Rw w' B v z'):fV w' B ve xs ((v,z')::post):=by
 have h0:Rw w B v z:=h.get (p:=(v,z)) (by simp);refine⟨xZ hE h.row λk hk e=>wC h.row h0 (by decide) k hk e,?_⟩;have h1:=h.rws;rw[Xb]at h1 ⊢;exact h1.exc hE hr
theorem fV.new {w w':World} {B C:Nat} {ve v:Value} {xs:List fF} {z:List Int} {l:List (Value×List Int)} (h:fV w B ve xs l) (hb:Below w.heap.size w w') (hr:Rw w' C v z) (hC:w.heap.size<=C) (hB:B<=w.heap.size):fV w' B ve xs ((v,z)::l) :=
 ⟨jL hb h.row,h.rws.new hb hr hC hB⟩
theorem fV.edge {w w':World} {B:Nat} {ve v' r1 r2:Value} {xs:List fF} {e:aO} {l:List (Value×List Int)} (h:fV w B ve xs ((r1,e.aj)::(r2,e.ay)::l)) (dL:mO w' B v' (xs++[(e,r1,r2)])) (hg:w.grownBy w' ve.ownBlock):fV w' B v' (xs++[(e,r1,r2)]) l:=by
 refine⟨dL.row,?_⟩;have h1:=h.rws.af4 h.row hg;refine h1.perm ?_;rw[ala];have e1:(r1,e.aj)::(r2,e.ay)::l++qA xs=[(r1,e.aj),(r2,e.ay)]++(l++qA xs):=rfl;have e2:l++(qA xs++qA [(e,r1,r2)])=(l++qA xs)++[(r1,e.aj),(r2,e.ay)]:=by rw[<-Zz];rfl
 rw[e1,e2];exact WU
theorem fV.row' {w:World} {B:Nat} {ve v:Value} {z:List Int} {xs:List fF} {l:List (Value×List Int)} (h:fV w B ve xs l) (hp:(v,z)∈l):Rw w B v z:=h.get hp
theorem fV.slice {w:World} {B:Nat} {ve v:Value} {z:List Int} {xs:List fF} {l:List (Value×List Int)} (h:fV w B ve xs l) (hp:(v,z)∈l):∃a c,v=.slice a z.length c:=(h.row' hp).slice
theorem fV.gr {w:World} {B:Nat} {ve vi vo:Value} {xs:List fF} {l:List (Value×List Int)} {c:Int} {E:List aO} {I O:List Int} (h:fV w B ve xs l) (hi:(vi,I)∈l) (ho:(vo,O)∈l) (hE:xs.map Prod.fst=E):dB w B ve vi vo ⟨c,E,I,O⟩ :=
 ⟨by have:=h.wL.o;rw[hE]at this;exact this,h.get hi,h.get ho⟩
end Go.Proofs.YtkhpobekconobaaGreat
