import Derived.Test.YtkhpobekconobaaGreatHBB
set_option linter.all false
set_option maxRecDepth 100000
set_option maxHeartbeats 0
namespace Go.Proofs.YtkhpobekconobaaGreat
open Go.RowKit
theorem akz {ns:List Nd} {X:List (Nat×W2)} (hX:X.length=ns.length) (hf:G7 ns X) (a b:Tr) (h:a.LK/\b.LK) (j:Nd) (hj:j.kind=15\/j.kind=16) (o:Nat) (r:List Nd) (hd:ns.drop o=(a.nodes++b.nodes++[j])++r)
  (ha:∀(o:Nat) (r:List Nd),ns.drop o=a.nodes++r->∃x,X[o+a.nodes.length-1]?=some (o,x)) (hb:∀(o:Nat) (r:List Nd),ns.drop o=b.nodes++r->∃x,X[o+b.nodes.length-1]?=some (o,x)) :
  ∃x,X[o+(a.nodes++b.nodes++[j]).length-1]?=some (o,x):=by
 have pa:=Pn a;have pb:=Pn b;obtain⟨xa,h1⟩:=ha o (b.nodes++[j]++r) (by rw[hd];simp);obtain⟨xb,h2⟩:=hb (o+a.nodes.length) ([j]++r) (by rw[<-List.drop_drop,hd];simp);have hn:ns[o+a.nodes.length+b.nodes.length]?=some j:=by
  have:=congrArg (λl=>l[a.nodes.length+b.nodes.length]?) hd;simp only[Vv]at this;rw[show o+a.nodes.length+b.nodes.length=o+(a.nodes.length+b.nodes.length)by omega,this];simp[Xd,Yz]
 have ho:=(Yb.1 hn).1;obtain⟨n',h3,h4⟩:=hf _ X[o+a.nodes.length+b.nodes.length] (Zi (by omega));rw[hn]at h3;obtain rfl:=Zy h3;rcases h4 with⟨h5,_⟩|⟨_,f,g,tb,ta,h6,_,h7,h8⟩
 ·exact absurd hj h5
 ·rw[h2]at h6;simp only[ZQ,YG]at h6;rw[<-h6.1,h1]at h7;simp only[ZQ,YG]at h7;refine⟨X[o+a.nodes.length+b.nodes.length].2,?_⟩;have e:o+(a.nodes++b.nodes++[j]).length-1=o+a.nodes.length+b.nodes.length:=by simp;omega
  rw[e,Zi (by omega)];congr 1;refine Prod.ext ?_ rfl;rw[h8,<-h7.1]
theorem abl {ns:List Nd} {X:List (Nat×W2)} (hX:X.length=ns.length) (hf:G7 ns X):∀(t:Tr),t.LK->∀(o:Nat) (r:List Nd),ns.drop o=t.nodes++r->∃x,X[o+t.nodes.length-1]?=some (o,x)
 | .leaf n,h,o,r,hd=>by
  rw[Tr.nodes]at hd ⊢;have hn:ns[o]?=some n:=by have:=congrArg (λl=>l[0]?) hd;simpa[Vv]using this
  have ho:=(Yb.1 hn).1;obtain⟨n',h1,h2⟩:=hf o X[o] (Zi (by omega));rw[hn]at h1;obtain rfl:=Zy h1;rcases h2 with⟨_,h3⟩|⟨h3,_⟩
  ·refine⟨X[o].2,?_⟩;simp only[ZT,Nat.add_sub_cancel];rw[Zi (by omega)];congr 1;exact Prod.ext h3 rfl
  ·exact absurd h3 h
 | .seq a b,h,o,r,hd=>akz hX hf a b h ⟨15,0,⟨#[]⟩⟩ (.inl rfl) o r (by rw[Tr.nodes]at hd;exact hd) (abl hX hf a h.1) (abl hX hf b h.2)
 | .par a b,h,o,r,hd=>akz hX hf a b h ⟨16,0,⟨#[]⟩⟩ (.inr rfl) o r (by rw[Tr.nodes]at hd;exact hd) (abl hX hf a h.1) (abl hX hf b h.2)
theorem afX (w:World):OV w (.slice none 0 0) []:=⟨none,0,rfl,Zj _,λi hi=>by simp at hi⟩
def ScJ (n f:Nat) (w:World) (e:Ending) (w':World):Prop:=∃(g c0:Nat) (a1:Option Addr) (n1 c1:Nat) (a2:Option Addr) (n2 c2:Nat),e=.returned (.tuple #[.agg #[.slice (some ⟨g,0,none⟩) n c0,.slice a1 n1 c1,.slice a2 n2 c2],.bool true])/\w'.cell? ⟨g,n-2,none⟩=some (.int .i64 (f:Int))/\w.heap.size<=g/\Below w.heap.size w w'
theorem asi (v:Value) (a b:Tr) (j:Nd) (t:W2) (w:World) (hv:dG w v (a.nodes++b.nodes++[j])) (aP:wQ (a.nodes++b.nodes++[j])) (ha:a.LK) (hb:b.LK) (ht:bP (bI []) (a.nodes++b.nodes++[j])=some t) :
  Calls Tryz.prog 144 #[.slice none 0 0,.agg #[v]] w (ScJ (a.nodes++b.nodes++[j]).length a.nodes.length w):=by
 refine(akt (.slice none 0 0) [] v _ w (afX w) (by simp) (by simp) hv aP).mono ?_;rintro e w'⟨a0,n0,c0,a1,n1,c1,a2,n2,c2,rfl,wu,hX⟩;obtain⟨X,rF,_,r0,_,_,iP⟩:=hX t ht;have pa:=Pn a;have pb:=Pn b;obtain⟨x,hx⟩:=abl rF iP b hb a.nodes.length [j] (by rw[Zz,List.drop_append_of_le_length (Zj _),WJ,YW]);have hXp:0<(X.map λp=>(p.1:Int)).length:=by rw[ZG,rF];simp only[Zk];omega
 obtain⟨g,cp,he,_,_,hg,_⟩:=aar r0 hXp;simp only[Zx,ZG]at he;obtain⟨rfl,rfl,rfl⟩:=he;obtain⟨q1,e1⟩:=G9 hx (λp:Nat×W2=>(p.1:Int));have f1:=r0.cell _ q1;rw[e1]at f1;have jI:(a.nodes++b.nodes++[j]).length-2=a.nodes.length+b.nodes.length-1:=by simp;omega
 rw[ht];rw[rF];exact⟨g,_,a1,n1,c1,a2,n2,c2,rfl,by rw[jI];exact f1,hg,wu⟩
theorem asj (v:Value) (a b:Tr) (j:Nd) (t:W2) (w:World) (hv:dG w v (a.nodes++b.nodes++[j])) (aP:wQ (a.nodes++b.nodes++[j])) (ha:a.LK) (hb:b.LK) (ht:bP (bI []) (a.nodes++b.nodes++[j])=some t) :
  Calls Tryz.prog 102 #[.agg #[v]] w (ScJ (a.nodes++b.nodes++[j]).length a.nodes.length w):=by
 obtain⟨ns,Ez⟩:∃ns,ns=a.nodes++b.nodes++[j]:=⟨_,rfl⟩
 have hsc:=λ(w1:World) (h1:dG w1 v ns)=>asi v a b j t w1 (Ez▸h1) aP ha hb ht;rw[<-Ez]at hv hsc ⊢;have uQ:=Za hsc;clear hsc ht aP Ez ha hb;obtain⟨av,cap,rfl⟩:=hv.slice;have hB:Below w.heap.size w ((w.alloc (.cells #[.slice av ns.length cap] 64)).alloc (.cells #[.slice none 0 0,.slice none 0 0,.slice none 0 0] 163)):=((Zl _ _).alloc (Zj _) _).alloc (by simp) _;go_enter Tryz.func102,Tryz.ntmps102;go_wp2_with (go_at_call 144;refine(uQ.out _ (hv.keep hB)).mono ?_;rintro e w2⟨g,c0,a1,n1,c1,a2,n2,c2,rfl,hc2,hg2,hb2⟩;have hs2:=hb2.size;simp only[Zn]at hs2 hg2;have q0:=hb2.cell (p:=⟨w.heap.size+1,0,none⟩) (by simp);have q1:=hb2.cell (p:=⟨w.heap.size+1,1,none⟩) (by simp);have q3:=hb2.cell (p:=⟨w.heap.size+1,2,none⟩) (by simp);have q4:∀k,w2.frozen? ⟨w.heap.size+1,k,none⟩=_:=λk=>hb2.frozen (p:=⟨w.heap.size+1,k,none⟩) (by simp);simp[go_sem]at q0 q1 q3 q4;have hz2:w.heap.size+1<w2.heap.size:=(by omega))
 refine Zt (v:=.tuple #[.agg #[.slice (some ⟨g,0,none⟩) ns.length c0,.slice a1 n1 c1,.slice a2 n2 c2],.bool true]) (by simp[results,Tryz.results102,go_sem,q0,q1,q3,hz2]) rfl ⟨g,c0,a1,n1,c1,a2,n2,c2,rfl,?_,by omega,?_⟩
 ·have:¬g=w.heap.size+1:=by omega
  go_simp
 ·exact((((hB.trans (hb2.mono (by simp;omega))).setCell (by simp) _).setCell (by simp) _).setCell (by simp) _)
theorem akA {w:World} {a:Option Addr} {n cap:Nat} {xs ys:List Nd} (h:dG w (.slice a n cap) (xs++ys)):dG w (.slice a xs.length cap) xs:=by
 obtain⟨a',cap',he,hc,hat⟩:=h;simp only[Zx]at he;obtain⟨rfl,_,rfl⟩:=he;refine⟨_,_,rfl,by simp at hc;omega,λi hi=>?_⟩;obtain⟨b,o,h1,hl,h2⟩:=hat i (by simp;omega);exact⟨b,o,h1,hi,by rw[Xx hi]at h2;exact h2⟩
theorem asl {w:World} {b o n cap:Nat} {xs ys:List Nd} (h:dG w (.slice (some ⟨b,o,none⟩) n cap) (xs++ys)):dG w (.slice (some ⟨b,o+xs.length*3,none⟩) ys.length (cap-xs.length)) ys:=by
 obtain⟨a',cap',he,hc,hat⟩:=h;simp only[Zx]at he;obtain⟨rfl,_,rfl⟩:=he;refine⟨_,_,rfl,by simp at hc;omega,λi hi=>?_⟩;obtain⟨b',o',h1,hl,h2⟩:=hat (xs.length+i) (by simp;omega)
 simp only[ZQ,Xm]at h1;obtain⟨rfl,rfl,_⟩:=h1;refine⟨_,_,rfl,hi,?_⟩;rw[YY (by omega)]at h2;simp only[YF]at h2;rw[show o+xs.length*3+i*3=o+(xs.length+i)*3 by omega];exact h2
theorem aC.low {T:Nat->Prop} {B:Nat} {w w':World} (h:aC T w w') (hT:∀j,T j->B<=j) (hB:B<=w.heap.size):Below B w w':=⟨h.os,h.tape,h.output,h.size,λk hk=>h.block k (by omega) (λht=>by have:=hT k ht;omega)⟩
def asn (A B:List Nd) (w:World) (e:Ending) (w':World):Prop:=∃va vb,e=.returned (.tuple #[.agg #[va],.agg #[vb]])/\jA w' w.heap.size va A/\jA w' w.heap.size vb B/\Below w.heap.size w w'
theorem aso (v:Value) (a b:Tr) (j:Nd) (t:W2) (w:World) (hv:dG w v (a.nodes++b.nodes++[j])) (aP:wQ (a.nodes++b.nodes++[j])) (ha:a.LK) (hb:b.LK) (ht:bP (bI []) (a.nodes++b.nodes++[j])=some t) :
  Calls Tryz.prog 108 #[.agg #[v]] w (asn a.nodes b.nodes w):=by
 have hlen:=Nl ht;have hsc:=λ(w1:World) (h1:dG w1 v (a.nodes++b.nodes++[j]))=>asj v a b j t w1 h1 aP ha hb ht;have pa:=Pn a;have pb:=Pn b;clear ht aP ha hb;obtain⟨A,hA⟩:∃A,A=a.nodes:=⟨_,rfl⟩
 obtain⟨B,hB⟩:∃B,B=b.nodes:=⟨_,rfl⟩
 rw[<-hA]at hv hlen hsc pa ⊢;rw[<-hB]at hv hlen hsc pb ⊢;clear hA hB;obtain⟨n,hn⟩:∃n,n=(A++B++[j]).length:=⟨_,rfl⟩
 have lD:n=A.length+B.length+1:=by rw[hn];simp only[Zk,ZT]
 have jH:A.length+B.length+1<=n:=by omega
 have jI:n<=A.length+B.length+1:=by omega
 clear lD;obtain⟨av,cap,rfl⟩:=hv.slice;rw[<-hn]at hv hsc hlen ⊢;have uQ:=Za hsc;clear hsc hn;obtain⟨bv,ov,rfl⟩:∃bv ov,av=some ⟨bv,ov,none⟩:=by
  obtain⟨a',cap',he,hc,hat⟩:=hv;obtain⟨b',o',h1,_⟩:=hat 0 (by simp only[Zk,ZT];omega);simp only[Zx]at he;exact⟨b',o',he.1.trans h1⟩
 have ED:n<=cap:=by
  obtain⟨a',cap',he,hc,hat⟩:=hv;simp only[Zx]at he;simp only[Zk,ZT]at hc;omega
 have hvA:dG w (.slice (some ⟨bv,ov,none⟩) A.length cap) A:=by rw[Zz]at hv;exact akA hv
 have hvB:dG w (.slice (some ⟨bv,ov+A.length*3,none⟩) B.length (cap-A.length)) B:=by rw[Zz]at hv;exact akA (asl hv)
 have akB:Below w.heap.size w (((w.alloc (.cells #[.slice (some ⟨bv,ov,none⟩) n cap] 64)).alloc (.cells #[.slice none 0 0] 64)).alloc (.cells #[.slice none 0 0] 64)):=(((Zl _ _).alloc (Zj _) _).alloc (by simp) _).alloc (by simp;omega) _;go_enter Tryz.func108,Tryz.ntmps108;go_wp2_with fail
 refine(uQ.out _ (hv.keep akB)).mono ?_;rintro e w2⟨g,c0,a1,n1,c1,a2,n2,c2,rfl,hc2,hg2,hb2⟩;have hs2:=hb2.size;simp only[Zn]at hs2 hg2;have q0:=hb2.cell (p:=⟨w.heap.size,0,none⟩) (by simp;omega);have q1:=hb2.cell (p:=⟨w.heap.size+1,0,none⟩) (by simp);have q2:=hb2.cell (p:=⟨w.heap.size+1+1,0,none⟩) (by simp);have q4:=hb2.frozen (p:=⟨w.heap.size+1,0,none⟩) (by simp);have q5:=hb2.frozen (p:=⟨w.heap.size+1+1,0,none⟩) (by simp);simp[go_sem]at q0 q1 q2 q4 q5;have hz0:w.heap.size<w2.heap.size:=by omega
 have hz1:w.heap.size+1<w2.heap.size:=by omega
 have hz2:w.heap.size+1+1<w2.heap.size:=by omega
 have akC:=akB.trans (hb2.mono (by simp;omega));have gz:=cell_lt hc2;have i1:IntKind.i64.wrap ((n:Int)-1)=(n:Int)-1:=Z8 _ (by omega);have i2:IntKind.i64.wrap ((n:Int)-1-1)=(n:Int)-1-1:=Z8 _ (by omega);have i3:0<=(n:Int)-1-1:=by omega
 have i4:(n:Int)-1-1<n:=by omega
 have i5:((n:Int)-1-1).toNat=n-2:=by omega
 have i6:¬(n:Int)-1-1<0:=by omega
 go_wp2_with fail
 have acG:=akC.alloc akC.size (.cells #[.slice (some ⟨g,0,none⟩) n c0,.slice a1 n1 c1,.slice a2 n2 c2] 163);have up:∀{w':World},aC (λj=>j=w.heap.size+1\/j=w.heap.size+1+1) (w2.alloc (.cells #[.slice (some ⟨g,0,none⟩) n c0,.slice a1 n1 c1,.slice a2 n2 c2] 163)).drew w'->Below w.heap.size w w':=λh=>acG.drew.trans (h.low (λj hj=>by omega) (by simp;omega));have k1:w.heap.size<w2.heap.size+1:=by omega
 have k2:¬w.heap.size=w.heap.size+1+1:=by omega
 have l1:¬cap=A.length:=by omega
 have l2:n-1-A.length=B.length:=by omega
 have j1:0<=(A.length:Int):=by omega
 have j2:(A.length:Int)<=cap:=by omega
 have j3:(A.length:Int)<=(n:Int)-1:=by omega
 have j4:(n:Int)-1<=cap:=by omega
 refine h_ (C:=aC ((λj=>j=w.heap.size+1\/j=w.heap.size+1+1)) _) 2 [0,1,2,3,4,5,6,7,8,9,10,11,12] (by kernel_rfl) (by kernel_rfl) (aC.aJ _ _) (aC.refl _ _) ?_;iterate 4 (apply i_ rfl rfl rfl;(focus intro u hc' hf';(try simp only[Zo]at hc' hf');go_simp<;>rfl);intro K hK;go_simp;apply hK;clear hK K)
 refine fD rfl rfl rfl (aC.aJ _ _) (aC.refl _ _) 146 (λK hK=>?_);apply Zq;refine⟨λw' hw'=>?_,λwa bT bZ=>?_⟩;(focus go_simp;rfl);refine(ahM _ A _ (hvA.keep (up bT)) (by omega)).mono ?_;rintro e w3⟨va,rfl,hoa,hb3⟩;refine⟨_,rfl,hb3,λhx=>?_⟩;go_simp;apply hK;clear hK K;obtain⟨aa,ca,rfl⟩:=hoa.slice;iterate 5 (apply i_ rfl rfl rfl;(focus intro u hc' hf';(try simp only[Zo]at hc' hf');go_simp<;>rfl);intro K hK;go_simp;apply hK;clear hK K)
 refine fD rfl rfl rfl (aC.aJ _ _) (hx) 146 (λK hK=>?_);apply Zq;refine⟨λw' hw'=>?_,λwb dJ dH=>?_⟩;(focus go_simp;rfl);refine(ahM _ B _ (hvB.keep (up dJ)) (by omega)).mono ?_;rintro e w4⟨vb,rfl,hob,hb4⟩;refine⟨_,rfl,hb4,λhx=>?_⟩;go_simp;apply hK;clear hK K;obtain⟨ab,cb,rfl⟩:=hob.slice;have akD:=(hoa.keep dH).keep hb4;have hzz:=(up hx).size;have hzw:=(up bT).size;have hzb:=(up dJ).size;refine jd rfl rfl rfl (aC.aJ _ _) hx (λK hK=>?_);intro w5 gu bH;have akE:=akD.keep bH;have akF:=hob.keep bH;have e5:=(up gu).size;have g1:=bZ.size;have g2:=hb3.size;have g3:=dH.size;have g4:=hb4.size;simp only[Zo,Zn]at g1;have K_:Below w2.heap.size w2 w5:=((((((Zl _ _).alloc (Zj _) _).drew.trans (bZ.mono (by simp))).trans (hb3.mono (by omega))).trans (dH.mono (by omega))).trans (hb4.mono (by omega))).trans (bH.mono (by omega));replace q1:=(K_.cell (p:=⟨w.heap.size+1,0,none⟩) hz1).trans q1;replace q4:=(K_.frozen (p:=⟨w.heap.size+1,0,none⟩) hz1).trans q4;replace q2:=(K_.cell (p:=⟨w.heap.size+1+1,0,none⟩) hz2).trans q2;replace q5:=(K_.frozen (p:=⟨w.heap.size+1+1,0,none⟩) hz2).trans q5;have z5:=K_.size;have zz1:w.heap.size+1<w5.heap.size:=by omega
 have zz2:w.heap.size+1+1<w5.heap.size:=by omega
 have o1:=(akE.mono (B':=w.heap.size+1+1+1) (by omega)).xP (a:=⟨w.heap.size+1,0,none⟩) (by show _<_;simp) (.slice aa A.length ca);have o2:=(akF.mono (B':=w.heap.size+1+1+1) (by omega)).xP (a:=⟨w.heap.size+1,0,none⟩) (by show _<_;simp) (.slice aa A.length ca);have AU:Below w.heap.size w (w5.setCell ⟨w.heap.size+1,0,none⟩ (.slice aa A.length ca)):=(up gu).setCell (by simp) _;have hex:aC (λj=>j=w.heap.size+1\/j=w.heap.size+1+1) (w2.alloc (.cells #[.slice (some ⟨g,0,none⟩) n c0,.slice a1 n1 c1,.slice a2 n2 c2] 163)).drew (w5.setCell ⟨w.heap.size+1,0,none⟩ (.slice aa A.length ca)):=bF gu (.inr (.inl rfl)) _;refine⟨w5.setCell ⟨w.heap.size+1,0,none⟩ (.slice aa A.length ca),?_,⟨hex,by simp,λj hj _ _=>by rw[Zm _ _ _ _ (by show ¬_=_;intro hh;simp only[Zo,Zn]at hj hh;omega)]⟩,?_⟩
 ·go_simp
 go_simp;refine hK _ _ _ ?_;clear hK K;obtain⟨W6,UE⟩:∃W6,W6=w5.setCell ⟨w.heap.size+1,0,none⟩ (.slice aa A.length ca):=⟨_,rfl⟩
 have p1:W6.cell? ⟨w.heap.size+1,0,none⟩=some (.slice aa A.length ca):=by rw[UE];go_simp
 have p2:W6.cell? ⟨w.heap.size+1+1,0,none⟩=some (.slice none 0 0):=by rw[UE];go_simp
 have p5:W6.frozen? ⟨w.heap.size+1+1,0,none⟩=false:=by rw[UE];go_simp
 have p6:w.heap.size+1+1<W6.heap.size:=by rw[UE];simpa using zz2
 rw[<-UE]at o1 o2 AU hex ⊢;clear UE q1 q2 q4 q5 zz1 zz2 hoa hob akD akE akF gu bH K_;refine jd rfl rfl rfl (aC.aJ _ _) hex (λK hK=>?_);intro w7 f_ dA;have hz7:=dA.size;replace p1:=aK dA p1;replace p5:=(dA.frozen (p:=⟨w.heap.size+1+1,0,none⟩) p6).trans p5;replace p2:=aK dA p2;replace p6:w.heap.size+1+1<w7.heap.size:=by omega
 replace o1:=(o1.keep dA).xP (a:=⟨w.heap.size+1+1,0,none⟩) (by show _<_;simp) (.slice ab B.length cb);replace o2:=(o2.keep dA).xP (a:=⟨w.heap.size+1+1,0,none⟩) (by show _<_;simp) (.slice ab B.length cb);have asq:Below w.heap.size w (w7.setCell ⟨w.heap.size+1+1,0,none⟩ (.slice ab B.length cb)):=(up f_).setCell (by simp;omega) _;refine⟨w7.setCell ⟨w.heap.size+1+1,0,none⟩ (.slice ab B.length cb),?_,⟨bF f_ (.inr (.inr rfl)) _,by simp,λj hj _ _=>by rw[Zm _ _ _ _ (by show ¬_=_;intro hh;simp only[Zo,Zn]at hj hh;omega)]⟩,?_⟩
 ·go_simp
 go_simp;refine hK _ _ _ ?_;clear hK K;have r1:(w7.setCell ⟨w.heap.size+1+1,0,none⟩ (.slice ab B.length cb)).cell? ⟨w.heap.size+1,0,none⟩=some (.slice aa A.length ca):=by go_simp
 have r2:(w7.setCell ⟨w.heap.size+1+1,0,none⟩ (.slice ab B.length cb)).cell? ⟨w.heap.size+1+1,0,none⟩=some (.slice ab B.length cb):=by go_simp
 refine dR ?_;go_wp2;exact Zt (v:=.tuple #[.agg #[.slice aa A.length ca],.agg #[.slice ab B.length cb]]) (by simp[results,Tryz.results108,go_sem,r1,r2]) rfl ⟨_,_,rfl,o1.mono (by omega),o2.mono (by omega),asq⟩
structure He (t:Tr):Prop where
 lk:t.LK
 ty:∃x,t.ty (bI [])=some x
 len:t.nodes.length<=400
theorem He.typed {t:Tr} (h:He t):(∃x,bP (bI []) t.nodes=some x)/\wQ t.nodes:=by
 obtain⟨x,hx⟩:=h.ty;have hl:=h.len;exact⟨⟨x,apv h.lk hx hl⟩,aax t x hx,by omega⟩
def UF (op:aF->aF->aF) (x y:Option aF):Option aF :=
 match x,y with
 | some x,some y=>if aY (op x y)=true then some (op x y)else none
 | _,_=>none
theorem asr (x y:wV) (u:World) (hx:dM u x.2.1 x.2.2.1 x.2.2.2 x.1) (hy:dM u y.2.1 y.2.2.1 y.2.2.2 y.1) (ga:aY x.1=true) (gb:aY y.1=true) (jM:x.1.ay.length=y.1.aj.length) :
  Calls Tryz.prog 110 #[.agg #[.int .i64 x.1.aB,x.2.1,x.2.2.1,x.2.2.2],.agg #[.int .i64 y.1.aB,y.2.1,y.2.2.1,y.2.2.2]] u (Ad (pI x.1 y.1) u):=by
 obtain⟨⟨W,E,I,O⟩,ve,vi,vo⟩:=x;obtain⟨⟨W',E',I',O'⟩,ve',lJ,ig⟩:=y;obtain⟨⟨n,h0,-⟩,-⟩:=eF ga;obtain⟨⟨m,k0,-⟩,-⟩:=eF gb;simp only at h0 k0;subst h0;subst k0;exact(arX n m E E' I I' O O' ve vi vo ve' lJ ig u hx hy ga gb jM).mono λ_ _ h=>h.mq
theorem asu (x y:wV) (u:World) (hx:dM u x.2.1 x.2.2.1 x.2.2.2 x.1) (hy:dM u y.2.1 y.2.2.1 y.2.2.2 y.1) (ga:aY x.1=true) (gb:aY y.1=true) :
  Calls Tryz.prog 111 #[.agg #[.int .i64 x.1.aB,x.2.1,x.2.2.1,x.2.2.2],.agg #[.int .i64 y.1.aB,y.2.1,y.2.2.1,y.2.2.2]] u (Ad (ql x.1 y.1) u):=by
 obtain⟨⟨W,E,I,O⟩,ve,vi,vo⟩:=x;obtain⟨⟨W',E',I',O'⟩,ve',lJ,ig⟩:=y;obtain⟨⟨n,h0,-⟩,-⟩:=eF ga;obtain⟨⟨m,k0,-⟩,-⟩:=eF gb;simp only at h0 k0;subst h0;subst k0;exact(awp n m E E' I I' O O' ve vi vo ve' lJ ig u hx hy (CX ga rfl) (CX gb rfl)).mono λ_ _ h=>h.mq
theorem dB.zero (w:World) (B:Nat):dB w B (.slice none 0 0) (.slice none 0 0) (.slice none 0 0) (ng none):=⟨mW.nil _ _,Ye _ _ _ _,Ye _ _ _ _⟩
def QN (r:Option aF) (w:World) (e:Ending) (w':World):Prop:=∃a1 c1 a2 c2 a3 c3,e=.returned (.tuple #[.agg #[.int .i64 (ng r).aB,.slice a1 (ng r).ah.length c1,.slice a2 (ng r).aj.length c2,.slice a3 (ng r).ay.length c3],.bool r.isSome])/\dB w' w.heap.size (.slice a1 (ng r).ah.length c1) (.slice a2 (ng r).aj.length c2) (.slice a3 (ng r).ay.length c3) (ng r)/\Below w.heap.size w w'
theorem KH.q {r:Option aF} {w w':World} {e:Ending} (h:KH r w e w'):QN r w e w':=by
 obtain⟨v1,v2,v3,rfl,h1,h2⟩:=h;obtain⟨⟨x1,y1,rfl⟩,⟨x2,y2,rfl⟩,x3,y3,rfl⟩:=h1.at.slices;exact⟨x1,y1,x2,y2,x3,y3,rfl,h1,h2⟩
theorem asv (v:Value) (n:Nd) (w:World) (hv:dG w v [n]) (hl:jB n=true) :
  Calls Tryz.prog 76 #[.agg #[v]] w (KH (some (vM n)) w):=by
 have hk:n.kind<15:=by
  unfold jB at hl;simp only[Zu,ZF]at hl;omega
 have hv0:=hv;obtain⟨a,cap,rfl,hc,hat⟩:=hv;obtain⟨b,o,rfl,hlt,n0,n1,n2⟩:=hat 0 (by simp);simp only[WP,WL,YC]at n0 n1 n2;simp only[ZT]at hc hv0 ⊢;have hz:=cell_lt n0;clear hat hlt;have hT:=λ(w1:World) (h1:dG w1 (.slice (some ⟨b,o,none⟩) 1 cap) [n])=>ahY (.slice (some ⟨b,o,none⟩) 1 cap) [] n w1 h1 (by simp);have HT:=Za hT;have HL:=Za (λu=>(arN n u hl).mono (R':=Ad (vM n) u) λ_ _ h=>h.mq);clear hT;have aQ:=aH w (.cells #[.slice (some ⟨b,o,none⟩) 1 cap] 64);have aT:=aH (w.alloc (.cells #[.slice (some ⟨b,o,none⟩) 1 cap] 64)) (.cells #[.int .i64 0,.slice none 0 0,.slice none 0 0,.slice none 0 0] 33);have hB:=aQ.trans (aT.mono aQ.size);have kT:=(Bk.new w 64 #[.slice (some ⟨b,o,none⟩) 1 cap]).keep aT;have kR:=Bk.new (w.alloc (.cells #[.slice (some ⟨b,o,none⟩) 1 cap] 64)) 33 #[.int .i64 0,.slice none 0 0,.slice none 0 0,.slice none 0 0];simp only[Zn]at kR;clear aQ aT hl;obtain⟨G,hG⟩:∃G,vM n=G:=⟨_,rfl⟩
 rw[hG]at HL ⊢;clear hG;go_enter Tryz.func76,Tryz.ntmps76;go_wp2_with fail
 generalize((w.alloc (.cells #[.slice (some ⟨b,o,none⟩) 1 cap] 64)).alloc (.cells #[.int .i64 0,.slice none 0 0,.slice none 0 0,.slice none 0 0] 33))=u0 at *;refine(HT.out u0 (hv0.keep hB)).mono ?_;rintro e u1⟨rfl,hb1⟩;have aS:=hB.trans (hb1.mono hB.size);replace kT:=kT.keep hb1;replace kR:=kR.keep hb1;replace n0:=aK aS n0;replace n1:=aK aS n1;replace n2:=aK aS n2;obtain⟨iT,-,zT⟩:=kT.cell;have zb:=cell_lt n0;clear hb1 hB hv0;go_wp2_with fail
 refine(HL.out u1).mono ?_;rintro e u2⟨x1,y1,x2,y2,x3,y3,rfl,hg,hb2⟩;have eU:=kR.lt;have oV:=kR.keep hb2;obtain⟨iR,fR,zR⟩:=oV.cell;have HG:=Za hg;have HB:=Za (aS.trans (hb2.mono aS.size));have HS:=Za aS.size;clear hg hb2 kR oV kT iT zT n0 n1 n2 aS;go_wp2;refine Zt (v:=.tuple #[.agg #[.int .i64 G.aB,.slice x1 G.ah.length y1,.slice x2 G.aj.length y2,.slice x3 G.ay.length y3],.bool true]) (by simp[results,Tryz.results76,go_sem,iR,fR,zR]) rfl ⟨_,_,_,rfl,?_,?_⟩
 ·exact(HG.out.res eU _ _ _ _).mono HS.out
 ·exact iU HB.out (by omega) _ _ _ _
theorem akG (K:Int) (hK:K=15\/K=16) (v:Value) (a b:Tr) (x:W2) (w:World) (hv:dG w v (a.nodes++b.nodes++[⟨K,0,⟨#[]⟩⟩])) (rC:bP (bI []) (a.nodes++b.nodes++[⟨K,0,⟨#[]⟩⟩])=some x)
  (aP:wQ (a.nodes++b.nodes++[⟨K,0,⟨#[]⟩⟩])) (la:a.LK) (lb:b.LK) (ra rb:Option aF)
  (ia:∀(v:Value) (w:World),dG w v a.nodes->Calls Tryz.prog 76 #[.agg #[v]] w (KH ra w)) (ib:∀(v:Value) (w:World),dG w v b.nodes->Calls Tryz.prog 76 #[.agg #[v]] w (KH rb w))
  (op:aF->aF->aF) (hop:∀ga gb,ra=some ga->rb=some gb->nJ (op ga gb)/\∀(v1 v2 v3 u1 u2 u3:Value) (u:World),dM u v1 v2 v3 ga->dM u u1 u2 u3 gb ->
   (K=15->Calls Tryz.prog 110 #[.agg #[.int .i64 ga.aB,v1,v2,v3],.agg #[.int .i64 gb.aB,u1,u2,u3]] u (Ad (op ga gb) u))/\(K=16->Calls Tryz.prog 111 #[.agg #[.int .i64 ga.aB,v1,v2,v3],.agg #[.int .i64 gb.aB,u1,u2,u3]] u (Ad (op ga gb) u))) :
  Calls Tryz.prog 76 #[.agg #[v]] w (KH (UF op ra rb) w):=by
 have hl:=Nl rC;have Bl:=λ(w1:World) (h1:dG w1 v (a.nodes++b.nodes++[⟨K,0,⟨#[]⟩⟩]))=>aso v a b ⟨K,0,⟨#[]⟩⟩ x w1 h1 aP la lb rC;have hT:∀(w1:World),dG w1 v ((a.nodes++b.nodes)++[⟨K,0,⟨#[]⟩⟩])->Calls Tryz.prog 106 #[.agg #[v]] w1 λe w'=>e=.returned (.int .i64 K)/\Below w1.heap.size w1 w':=λw1 h1=>ahY v (a.nodes++b.nodes) ⟨K,0,⟨#[]⟩⟩ w1 h1 (by simp only[Zk]at hl ⊢;omega);obtain⟨NA,hNA⟩:∃A,A=a.nodes:=⟨_,rfl⟩
 obtain⟨NB,hNB⟩:∃B,B=b.nodes:=⟨_,rfl⟩
 rw[<-hNA,<-hNB]at hv Bl hT hl;rw[<-hNA]at ia;rw[<-hNB]at ib;have HIA:=Za (λv w h=>(ia v w h).mono (R':=QN ra w) λ_ _ h=>h.q);have HIB:=Za (λv w h=>(ib v w h).mono (R':=QN rb w) λ_ _ h=>h.q);have HP:=Za Bl;have HT:=Za hT;have vV:=Za hop;have lD:¬K<15:=by omega
 obtain⟨J,hJ⟩:∃J,UF op ra rb=J:=⟨_,rfl⟩
 have HJ:=Za hJ;rw[hJ];obtain⟨N,hN⟩:∃N,N=(NA++NB++[(⟨K,0,⟨#[]⟩⟩:Nd)]).length:=⟨_,rfl⟩
 obtain⟨av,cv,rfl⟩:=hv.slice;rw[<-hN]at *;have HV:=Za hv;have HKK:=Za hK;clear Bl hT hop hJ ia ib rC aP la lb hNA hNB hl hv hN hK;have aQ:=aH w (.cells #[.slice av N cv] 64);have aT:=aH (w.alloc (.cells #[.slice av N cv] 64)) (.cells #[.int .i64 0,.slice none 0 0,.slice none 0 0,.slice none 0 0] 33);have hB:=aQ.trans (aT.mono aQ.size);have kT:=(Bk.new w 64 #[.slice av N cv]).keep aT;have kR:=Bk.new (w.alloc (.cells #[.slice av N cv] 64)) 33 #[.int .i64 0,.slice none 0 0,.slice none 0 0,.slice none 0 0];simp only[Zn]at kR;clear aQ aT;go_enter Tryz.func76,Tryz.ntmps76;go_wp2_with fail
 generalize((w.alloc (.cells #[.slice av N cv] 64)).alloc (.cells #[.int .i64 0,.slice none 0 0,.slice none 0 0,.slice none 0 0] 33))=u0 at *;have I5:=Za kR.lt;refine(HT.out u0 (HV.out.keep hB)).mono ?_;rintro e u1⟨rfl,hb1⟩;have aS:=hB.trans (hb1.mono hB.size);replace kT:=kT.keep hb1;replace kR:=kR.keep hb1;obtain⟨iT,-,zT⟩:=kT.cell;clear hB;go_wp2_with fail
 refine(HP.out u1 (HV.out.keep aS)).mono ?_;rintro e u2⟨va,vb,rfl,hna,d_,hb2⟩;have aZ:=aS.trans (hb2.mono aS.size);replace kR:=kR.keep hb2;clear kT iT zT;obtain⟨aa,ca,rfl⟩:=hna.slice;obtain⟨ab,cb,rfl⟩:=d_.slice;have dU:=aH u2 (.cells #[.slice aa NA.length ca] 64);have dV:=aH (u2.alloc (.cells #[.slice aa NA.length ca] 64)) (.cells #[.slice ab NB.length cb] 64);have abm:=dU.trans (dV.mono dU.size);have k5:=(Bk.new u2 64 #[.slice aa NA.length ca]).keep dV;have k6:=Bk.new (u2.alloc (.cells #[.slice aa NA.length ca] 64)) 64 #[.slice ab NB.length cb];rw[Zn]at k6;go_wp2_with fail
 have fU:=aZ.trans (abm.mono aZ.size);replace kR:=kR.keep abm;have akH:=hna.at.keep abm;have UG:=d_.at.keep abm;clear dU dV abm hna d_ hb2 hb1 aS aZ;generalize((u2.alloc (.cells #[.slice aa NA.length ca] 64)).alloc (.cells #[.slice ab NB.length cb] 64))=u3 at *;generalize u2.heap.size=b5 at *;refine(HIA.out _ u3 akH).mono ?_;rintro e u4⟨x1,y1,x2,y2,x3,y3,rfl,Hf,hb4⟩;have dZ:=fU.trans (hb4.mono fU.size);replace kR:=kR.keep hb4;have k64:=k6.keep hb4;replace UG:=UG.keep hb4;obtain⟨i6,-,z6⟩:=k64.cell;clear k5 k6 akH hb4;have Jj:=Za fU.size;clear fU;go_wp2_with fail
 have fP:=aH u4 (.cells #[.int .i64 (ng ra).aB,.slice x1 (ng ra).ah.length y1,.slice x2 (ng ra).aj.length y2,.slice x3 (ng ra).ay.length y3] 33);have k7:=Bk.new u4 33 #[.int .i64 (ng ra).aB,.slice x1 (ng ra).ah.length y1,.slice x2 (ng ra).aj.length y2,.slice x3 (ng ra).ay.length y3];have iV:=dZ.trans (fP.mono dZ.size);replace kR:=kR.keep fP;replace Hf:=Hf.keep fP;replace UG:=UG.keep fP;clear fP k64 i6 z6 dZ;generalize(u4.alloc (.cells #[.int .i64 (ng ra).aB,.slice x1 (ng ra).ah.length y1,.slice x2 (ng ra).aj.length y2,.slice x3 (ng ra).ay.length y3] 33))=u5 at *;generalize u4.heap.size=b7 at *;refine(HIB.out _ u5 UG).mono ?_;rintro e u6⟨s1,t1,s2,t2,s3,t3,rfl,hgb,aV⟩;have eY:=iV.trans (aV.mono iV.size);replace kR:=kR.keep aV;replace k7:=k7.keep aV;replace Hf:=Hf.keep aV;clear UG aV;have Jk:=Za iV.size;clear iV;cases ra with
 | none =>
  have HJN:=Za (show J=none by rw[<-HJ.out];rfl);obtain⟨iR,fR,zR⟩:=kR.cell;have z_:=Za eY;clear Hf hgb k7 eY kR;go_wp2;refine Zt (v:=.tuple #[.agg #[.int .i64 0,.slice none 0 0,.slice none 0 0,.slice none 0 0],.bool false]) (by simp[results,Tryz.results76,go_sem,iR,fR,zR]) rfl ?_;rw[HJN.out];refine⟨_,_,_,rfl,dB.zero _ _,?_⟩
  (repeat(first|(with_reducible refine Xh ?_ ?_ _;rotate_left;(first|omega|(simp;done)|(simp;omega)))|(with_reducible refine YI ?_ ?_ _;rotate_left;(first|exact Zj _|(simp;done)|(simp;omega)))|(with_reducible refine XQ ?_)));exact iU z_.out (by omega) _ _ _ _
 | some ga =>
  cases rb with
  | none =>
   have HJN:=Za (show J=none by rw[<-HJ.out];rfl);obtain⟨iR,fR,zR⟩:=kR.cell;have z_:=Za eY;clear Hf hgb k7 eY kR;go_wp2;refine Zt (v:=.tuple #[.agg #[.int .i64 0,.slice none 0 0,.slice none 0 0,.slice none 0 0],.bool false]) (by simp[results,Tryz.results76,go_sem,iR,fR,zR]) rfl ?_;rw[HJN.out];refine⟨_,_,_,rfl,dB.zero _ _,?_⟩
   (repeat(first|(with_reducible refine Xh ?_ ?_ _;rotate_left;(first|omega|(simp;done)|(simp;omega)))|(with_reducible refine YI ?_ ?_ _;rotate_left;(first|exact Zj _|(simp;done)|(simp;omega)))|(with_reducible refine XQ ?_)));exact iU z_.out (by omega) _ _ _ _
  | some gb =>
   obtain⟨hgo,akI⟩:=vV.out ga gb rfl rfl;simp only[ng,YL]at Hf hgb k7 ⊢;have jZ:=aH u6 (.cells #[.int .i64 gb.aB,.slice s1 gb.ah.length t1,.slice s2 gb.aj.length t2,.slice s3 gb.ay.length t3] 33);have k9:=Bk.new u6 33 #[.int .i64 gb.aB,.slice s1 gb.ah.length t1,.slice s2 gb.aj.length t2,.slice s3 gb.ay.length t3];have wX:=Za (λu (hu:Below u6.heap.size u6 u)=>akI _ _ _ _ _ _ u (Hf.keep hu).at (hgb.keep hu).at);have BD:=Za hgo;have z_:=Za eY;obtain⟨i7,f7,z7⟩:=k7.cell;have HJS:=Za (show J=if aY (op ga gb)=true then some (op ga gb)else none by rw[<-HJ.out];rfl);clear akI hgo Hf hgb k7 eY;have HS6:=Za (show w.heap.size+1<u6.heap.size from kR.lt);rcases HKK.out with rfl|rfl
   ·go_wp2_with fail
    have iy:=z_.out.trans (jZ.mono z_.out.size);replace kR:=kR.keep jZ;have iQ:=(wX.out _ jZ).1 trivial;clear wX i7 f7 z7;generalize(u6.alloc (.cells #[.int .i64 gb.aB,.slice s1 gb.ah.length t1,.slice s2 gb.aj.length t2,.slice s3 gb.ay.length t3] 33))=u7 at *;refine iQ.mono ?_;rintro e u8⟨p1,q1,p2,q2,p3,q3,rfl,QO,bJ⟩;have sU:=iy.trans (bJ.mono iy.size);replace kR:=kR.keep bJ;go_wp2_with fail
    refine(akl _ _ _ _ u8 (QO.mono (Zw _)) BD.out).mono ?_;rintro e u9⟨e1,e2,dX⟩;have tY:=sU.trans (dX.mono sU.size);replace kR:=kR.keep dX;obtain⟨iR,fR,zR⟩:=kR.cell;have Gn:=Za tY;have HG:=Za ((QO.keep dX).mono iy.size);have AU:w.heap.size+1<u7.heap.size:=by have:=I5.out;have:=jZ.size;have:=HS6.out;omega
    have HG2:=Za (QO.keep dX);generalize op ga gb=G at *;clear iy bJ sU dX tY iQ jZ kR k9;cases hgb:aY G with
    | true =>
     obtain rfl:=e1 hgb;have HJ2:=Za (show J=some G by rw[HJS.out,ZE hgb]);clear e1 e2 hgb;go_wp2;refine Zt (v:=.tuple #[.agg #[.int .i64 G.aB,.slice p1 G.ah.length q1,.slice p2 G.aj.length q2,.slice p3 G.ay.length q3],.bool true]) (by simp[results,Tryz.results76,go_sem,iR,fR,zR]) rfl ?_;rw[HJ2.out];exact⟨_,_,_,rfl,(HG2.out.res AU _ _ _ _).mono (by omega),iU Gn.out (by omega) _ _ _ _⟩
    | false =>
     obtain rfl:=e2 hgb;have HJ2:=Za (show J=none by rw[HJS.out,hgb];rfl);clear e1 e2 hgb;go_wp2;refine Zt (v:=.tuple #[.agg #[.int .i64 0,.slice none 0 0,.slice none 0 0,.slice none 0 0],.bool false]) (by simp[results,Tryz.results76,go_sem,iR,fR,zR]) rfl ?_;rw[HJ2.out];exact⟨_,_,_,rfl,dB.zero _ _,iU Gn.out (by omega) _ _ _ _⟩
   ·go_wp2_with fail
    have iy:=z_.out.trans (jZ.mono z_.out.size);replace kR:=kR.keep jZ;have iQ:=(wX.out _ jZ).2 trivial;clear wX i7 f7 z7;generalize(u6.alloc (.cells #[.int .i64 gb.aB,.slice s1 gb.ah.length t1,.slice s2 gb.aj.length t2,.slice s3 gb.ay.length t3] 33))=u7 at *;refine iQ.mono ?_;rintro e u8⟨p1,q1,p2,q2,p3,q3,rfl,QO,bJ⟩;have sU:=iy.trans (bJ.mono iy.size);replace kR:=kR.keep bJ;go_wp2_with fail
    refine(akl _ _ _ _ u8 (QO.mono (Zw _)) BD.out).mono ?_;rintro e u9⟨e1,e2,dX⟩;have tY:=sU.trans (dX.mono sU.size);replace kR:=kR.keep dX;obtain⟨iR,fR,zR⟩:=kR.cell;have Gn:=Za tY;have HG:=Za ((QO.keep dX).mono iy.size);have AU:w.heap.size+1<u7.heap.size:=by have:=I5.out;have:=jZ.size;have:=HS6.out;omega
    have HG2:=Za (QO.keep dX);generalize op ga gb=G at *;clear iy bJ sU dX tY iQ jZ kR k9;cases hgb:aY G with
    | true =>
     obtain rfl:=e1 hgb;have HJ2:=Za (show J=some G by rw[HJS.out,ZE hgb]);clear e1 e2 hgb;go_wp2;refine Zt (v:=.tuple #[.agg #[.int .i64 G.aB,.slice p1 G.ah.length q1,.slice p2 G.aj.length q2,.slice p3 G.ay.length q3],.bool true]) (by simp[results,Tryz.results76,go_sem,iR,fR,zR]) rfl ?_;rw[HJ2.out];exact⟨_,_,_,rfl,(HG2.out.res AU _ _ _ _).mono (by omega),iU Gn.out (by omega) _ _ _ _⟩
    | false =>
     obtain rfl:=e2 hgb;have HJ2:=Za (show J=none by rw[HJS.out,hgb];rfl);clear e1 e2 hgb;go_wp2;refine Zt (v:=.tuple #[.agg #[.int .i64 0,.slice none 0 0,.slice none 0 0,.slice none 0 0],.bool false]) (by simp[results,Tryz.results76,go_sem,iR,fR,zR]) rfl ?_;rw[HJ2.out];exact⟨_,_,_,rfl,dB.zero _ _,iU Gn.out (by omega) _ _ _ _⟩
theorem He.asw {a b:Tr} (h:He (.seq a b)):He a/\He b/\∃p q x,a.ty (bI [])=some p/\b.ty (bI [])=some q/\og 15 p q=some x:=by
 obtain⟨x,hx⟩:=h.ty;have hl:=h.len;simp only[Tr.nodes,Zk,ZT]at hl;simp only[Tr.ty]at hx;split at hx
 ·rename_i p q h1 h2
  exact⟨⟨h.lk.1,⟨_,h1⟩,by omega⟩,⟨h.lk.2,⟨_,h2⟩,by omega⟩,p,q,x,h1,h2,hx⟩
 ·cases hx
theorem He.asx {a b:Tr} (h:He (.par a b)):He a/\He b/\∃p q,a.ty (bI [])=some p/\b.ty (bI [])=some q:=by
 obtain⟨x,hx⟩:=h.ty;have hl:=h.len;simp only[Tr.nodes,Zk,ZT]at hl;simp only[Tr.ty]at hx;split at hx
 ·rename_i p q h1 h2
  exact⟨⟨h.lk.1,⟨_,h1⟩,by omega⟩,⟨h.lk.2,⟨_,h2⟩,by omega⟩,p,q,h1,h2⟩
 ·cases hx
theorem asy (a b:Tr):jU (.seq a b)=UF pI (jU a) (jU b):=by
 unfold UF;rw[jU];cases jU a<;>cases jU b<;>rfl
theorem asz (a b:Tr):jU (.par a b)=UF ql (jU a) (jU b):=by
 unfold UF;rw[jU];cases jU a<;>cases jU b<;>rfl
theorem abn:∀(t:Tr),He t->∀(v:Value) (w:World),dG w v t.nodes->Calls Tryz.prog 76 #[.agg #[v]] w (KH (jU t) w)
 | .leaf n,h,v,w,hv=>by
  obtain⟨x,hx⟩:=h.ty;exact asv v n w hv (acH hx).1
 | .seq a b,h,v,w,hv=>by
  obtain⟨⟨x,hx⟩,aP⟩:=h.typed;obtain⟨ha,hb,p,q,y,h1,h2,hj⟩:=h.asw;rw[asy];refine akG 15 (.inl rfl) v a b x w hv hx aP ha.lk hb.lk _ _ (λv w hv=>abn a ha v w hv) (λv w hv=>abn b hb v w hv) pI λga gb ea eb=>?_;have ma:=DU a p h1 ga ea;have mb:=DU b q h2 gb eb;have hf:ga.ay.length=gb.aj.length:=by have h3:=ma.b;have h4:=mb.a;have h5:=(afT hj).1;omega
  exact⟨akj ma.ok mb.ok,λv1 v2 v3 u1 u2 u3 u r1 r2=>⟨λ_=>asr (ga,v1,v2,v3) (gb,u1,u2,u3) u r1 r2 ma.ok mb.ok hf,λhh=>absurd hh (by decide)⟩⟩
 | .par a b,h,v,w,hv=>by
  obtain⟨⟨x,hx⟩,aP⟩:=h.typed;obtain⟨ha,hb,p,q,h1,h2⟩:=h.asx;rw[asz];refine akG 16 (.inr rfl) v a b x w hv hx aP ha.lk hb.lk _ _ (λv w hv=>abn a ha v w hv) (λv w hv=>abn b hb v w hv) ql λga gb ea eb=>?_;have ma:=DU a p h1 ga ea;have mb:=DU b q h2 gb eb;exact⟨akk ma.ok mb.ok,λv1 v2 v3 u1 u2 u3 u r1 r2=>⟨λhh=>absurd hh (by decide),λ_=>asu (ga,v1,v2,v3) (gb,u1,u2,u3) u r1 r2 ma.ok mb.ok⟩⟩
theorem akJ (ns:List Nd) (x:W2) (v:Value) (w:World) (rC:bP (bI []) ns=some x) (hv:dG w v ns):Calls Tryz.prog 76 #[.agg #[v]] w (KH (lS ns) w):=by
 obtain⟨t,h1,h2,rfl⟩:=aeL rC;have:=abn t ⟨h1,⟨x,h2⟩,Nl rC⟩ v w hv;have e:lS t.nodes=jU t:=by
  have hg:=Nz t x h1 h2 [] [];rw[ZZ]at hg;unfold lS;rw[hg];cases jU t<;>rfl
 rw[e];exact this
structure dP where
 name:ByteArray
 left:List Nd
 right:List Nd
def Dp (r:dP):Bool :=
 nameB r.name&&(decide (bP (bI []) r.left=bP (bI []) r.right)&&(aaF r.left&&aaF r.right))
end Go.Proofs.YtkhpobekconobaaGreat
