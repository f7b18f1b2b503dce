/-
  The draws' cursor: next, pick, one. Own work.
-/
import Derived.Test.YtikgblkfmpecfaaGreatDoorWC
import Derived.BigQuiet
import Derived.Deep.QuietTactic
import Derived.WalkSmall
import Derived.Lib.VarintBits
import Derived.Test.YtikgblkfmpecfaaGreatDoorWF
import Derived.Test.YtikgblkfmpecfaaGreatDoorWG
import Derived.Test.YtikgblkfmpecfaaGreatDoorWE
import Derived.Laws.OwnMore
import Derived.Test.YtikgblkfmpecfaaGreatDoorWT
import Derived.Test.YtikgblkfmpecfaaGreatDoorWA
set_option linter.all false
set_option maxRecDepth 100000
set_option maxHeartbeats 8000000
namespace Go.Proofs.YtikgblkfmpecfaaGreatDoor
open Go.RowKit
def BytesAt (w:World) (v:Value) (bs:List UInt8):Prop:=iT 1 v bs.length λi b o=>∃h:i<bs.length,w.cell? ⟨b,o,none⟩=some (.int .u8 (bs[i].toNat:Int))
structure YN (bc m:Nat) (w:World) (va:Value) (code:List UInt8) (pos:Nat) (sd:Int):Prop where
 c0:w.cell? ⟨bc,0,none⟩=some va
 c1:w.cell? ⟨bc,1,none⟩=some (.int .i64 (pos:Int))
 c2:w.cell? ⟨bc,2,none⟩=some (.int .u64 sd)
 fz:∀j,w.frozen? ⟨bc,j,none⟩=false
 Et:BytesAt w va code
 G_:∀b o sp n c,va=.slice (some ⟨b,o,sp⟩) n c->b<bc
 pm:pos<=m
 cl:code.length<=1048576
def aW (bc m:Nat) (w:World):Prop:=∃va code pos sd,YN bc m w va code pos sd
theorem BytesAt.keep {w w':World} {v:Value} {bs:List UInt8} (h:BytesAt w v bs) (hk:∀b o,v.ownBlock=some b->w'.cell? ⟨b,o,none⟩=w.cell? ⟨b,o,none⟩):BytesAt w' v bs:=by
 obtain⟨a,cap,rfl,hc,hat⟩:=h;refine⟨a,cap,rfl,hc,λi hi=>?_⟩;obtain⟨b,o,rfl,hi',hx⟩:=hat i hi;exact⟨b,o,rfl,hi',(hk b _ rfl).trans hx⟩
theorem BytesAt.shape {w:World} {v:Value} {bs:List UInt8} (h:BytesAt w v bs):∃a c,v=.slice a bs.length c:=by obtain⟨a,cap,rfl,_⟩:=h;exact⟨a,cap,rfl⟩
theorem aW.lt {bc m:Nat} {w:World} (h:aW bc m w):bc<w.heap.size:=by obtain⟨_,_,_,_,h⟩:=h;exact cell_lt h.c0
theorem aW.mono {bc m m':Nat} {w:World} (h:aW bc m w) (hm:m<=m'):aW bc m' w:=by
 obtain⟨va,code,pos,sd,h⟩:=h;exact⟨va,code,pos,sd,h.c0,h.c1,h.c2,h.fz,h.Et,h.G_,Nat.le_trans h.pm hm,h.cl⟩
theorem aW.exc {bc m:Nat} {w w':World} {T:Nat->Prop} (h:aW bc m w) (hE:ah T w w') (hT:∀k,T k->bc<k):aW bc m w':=by
 have hb:=h.lt;obtain⟨va,code,pos,sd,h⟩:=h;have hn:∀k,k<=bc->¬T k:=λk hk ht=>by have:=hT k ht;omega
 refine⟨va,code,pos,sd,(hE.cell.1 _ _ hb (hn _ (Nat.le_refl _))).trans h.c0,(hE.cell.1 _ _ hb (hn _ (Nat.le_refl _))).trans h.c1,(hE.cell.1 _ _ hb (hn _ (Nat.le_refl _))).trans h.c2,λj=>(hE.cell.2 _ _ hb (hn _ (Nat.le_refl _))).trans (h.fz j),h.Et.keep λb o e=>?_,h.G_,h.pm,h.cl⟩;obtain⟨a,c,rfl⟩:=h.Et.shape;match a,e with
 | some ⟨b',o',sp⟩,e =>
  have e':b'=b:=by simpa[Value.ownBlock]using e
  subst e'
  have hlo:=h.G_ b' o' sp _ _ rfl
  exact hE.cell.1 _ _ (by omega) (hn _ (by omega))
theorem aW.keep {bc m:Nat} {w w':World} (h:aW bc m w) (hb:Below w.heap.size w w'):aW bc m w':=by
 have hl:=h.lt;exact h.exc (T:=λk=>w.heap.size<=k) ⟨hb.os,hb.tape,hb.output,hb.size,λk hk _=>hb.block k hk⟩ (λk hk=>by omega)
theorem YO {bc m:Nat} {w:World} {va:Value} {code:List UInt8} {pos:Nat} {sd:Int} (h:YN bc m w va code pos sd) (p q:Nat) (s':Int) :
  aW bc (m+1) ((((w.drewN p).setCell ⟨bc,1,none⟩ (.int .i64 ((pos:Int)+1))).setCell ⟨bc,2,none⟩ (.int .u64 s')).drewN q) /\
   ah (λk=>k=bc) w ((((w.drewN p).setCell ⟨bc,1,none⟩ (.int .i64 ((pos:Int)+1))).setCell ⟨bc,2,none⟩ (.int .u64 s')).drewN q):=by
 have hE:ah (λk=>k=bc) w ((((w.drewN p).setCell ⟨bc,1,none⟩ (.int .i64 ((pos:Int)+1))).setCell ⟨bc,2,none⟩ (.int .u64 s')).drewN q) :=
  (aB (T:=λk=>k=bc) (aB (T:=λk=>k=bc) ((ah.refl (λk=>k=bc) w).below (below_drewN (Below.refl _ _) p)) (.inr rfl) (a:=⟨bc,1,none⟩) _) (.inr rfl) (a:=⟨bc,2,none⟩) _).below (below_drewN (Below.refl _ _) q)
 refine⟨?_,hE⟩;have c0:=h.c0;have c1:=h.c1;have c2:=h.c2;have fz:=h.fz;refine⟨va,code,pos+1,s',by go_simp,by go_simp,by go_simp,λj=>by go_simp,h.Et.keep λb o e=>?_,h.G_,by have:=h.pm;omega,h.cl⟩;obtain⟨a,c,rfl⟩:=h.Et.shape;match a,e with
 | some ⟨b',o',sp⟩,e =>
  have e':b'=b:=by simpa[Value.ownBlock]using e
  subst e'
  have hlo:=h.G_ b' o' sp _ _ rfl
  have hbz:=cell_lt c0
  exact hE.cell.1 _ _ (by omega) (by omega)
theorem aeH (z:Int):0<=wrap64 (bits BinOp.and IntKind.u64 (IntKind.u64.wrap z / 1099511627776) 255)/\wrap64 (bits BinOp.and IntKind.u64 (IntKind.u64.wrap z / 1099511627776) 255)<=255:=by
 have hw:IntKind.u64.wrap z=z % 18446744073709551616:=by simp[IntKind.wrap,IntKind.bits,IntKind.signed]
 rw[hw];have h2:bits BinOp.and IntKind.u64 (z % 18446744073709551616 / 1099511627776) 255=(z % 18446744073709551616 / 1099511627776) % 256:=bits_mask .u64 64 (by decide) wraps_u64 8 (by decide) _ (by omega) (by omega);rw[h2,IntWalk.wrap64_in _ (by omega)];omega
def NxP (bc m:Nat) (w:World) (e:Ending) (w':World):Prop:=∃x:Int,e=.returned (.int .i64 x)/\0<=x/\x<=255/\aW bc (m+1) w'/\ah (λk=>k=bc) w w'
theorem QZ (bc m:Nat) (w:World) (h:aW bc m w) (hm:m<=1099511627776) :
  Calls Tryz.prog 78 #[.pointer (some ⟨bc,0,none⟩)] w (NxP bc m w):=by
 have hbz:=h.lt;obtain⟨va,code,pos,sd,hv⟩:=h;obtain⟨a,c,rfl⟩:=hv.Et.shape;obtain⟨c0,c1,c2,fz,hby,low,hpm,hcl⟩:=id hv;have HV:=Lib.hid hv;by_cases hlt:pos<code.length
 ·obtain⟨_,_,e,_,hat⟩:=hby;simp only[Value.slice.injEq]at e;obtain⟨rfl,_,rfl⟩:=e;obtain⟨b,o,rfl,_,hx⟩:=hat pos hlt;have g1:(pos:Int)<(code.length:Int):=by omega
  have g2:(pos:Int)+1<=(code.length:Int):=by omega
  have hbl:=low b o none _ _ rfl;obtain⟨cb,hcb⟩:∃cb,(code[pos].toNat:Int)=cb:=⟨_,rfl⟩
  have hcb2:0<=cb/\cb<=255:=by have:=code[pos].toNat_lt;omega
  rw[hcb]at hx;have e1:wrap64 cb=cb:=IntWalk.wrap64_in _ (by omega);have hxz:=cell_lt hx;have hne:¬b=bc:=by omega
  rw[Nat.mul_one]at hx;clear hv low hat
  go_enter Tryz.func78,Tryz.ntmps78;go_wp2_with fail
  go_quiet (fail)
  go_wp2_with fail
  go_quiet (fail)
  go_wp2_with fail
  go_quiet (fail)
  go_wp2_with fail
  go_ret
  obtain⟨r1,r2⟩:=YO HV.out _ _ _;exact⟨cb,rfl,hcb2.1,hcb2.2,r1,r2⟩
 ·have g1:¬(pos:Int)<(code.length:Int):=by omega
  have g2:¬(pos:Int)+1<=(code.length:Int):=by omega
  clear hv low hby;go_enter Tryz.func78,Tryz.ntmps78;go_wp2_with fail
  go_quiet (fail)
  go_wp2_with fail
  go_quiet (fail)
  go_wp2_with fail
  go_ret
  obtain⟨r1,r2⟩:=YO HV.out _ _ _;obtain⟨b1,b2⟩:=aeH (IntKind.u64.wrap (IntKind.u64.wrap (sd*6364136223846793005))+1442695040888963407);exact⟨_,rfl,b1,b2,r1,r2⟩
def YP (bc m:Nat) (n:Int) (w:World) (e:Ending) (w':World):Prop:=∃x:Int,e=.returned (.int .i64 x)/\0<=x/\x<1048576/\(x=0\/x<n)/\aW bc (m+2) w'/\ah (λk=>k=bc) w w'
theorem pick_any (bc m:Nat) (n:Int) (w:World) (h:aW bc m w) (hm:m+2<=1099511627776) (hn:n<=1048576) :
  Calls Tryz.prog 38 #[.pointer (some ⟨bc,0,none⟩),.int .i64 n] w (YP bc m n w):=by
 by_cases h1:n<=1
 ·go_enter Tryz.func38,Tryz.ntmps38;go_wp2;go_ret
  exact⟨0,rfl,by omega,by omega,.inl rfl,h.mono (by omega),ah.refl _ _⟩
 ·have YQ:∀x:Int,0<=x % n/\x % n<n:=λx=>⟨Int.emod_nonneg _ (by omega),Int.emod_lt_of_pos _ (by omega)⟩
  have hn0:¬n=0:=by omega
  by_cases h2:n<=200
  ·have g2:¬(200<n):=by omega
   go_enter Tryz.func38,Tryz.ntmps38;go_wp2_with (go_at_call 78;refine(QZ bc m _ h (by omega)).mono ?_;rintro e w2⟨x,rfl,x0,x1,hc2,hx2⟩)
   go_ret
   obtain⟨r1,r2⟩:=YQ x;exact⟨_,rfl,r1,by omega,.inr r2,hc2.mono (by omega),hx2⟩
  ·have g2:200<n:=by omega
   go_enter Tryz.func38,Tryz.ntmps38;go_wp2_with (go_at_call 78;first|(refine(QZ bc m _ h (by omega)).mono ?_;rintro e w2⟨x,rfl,x0,x1,hc2,hx2⟩)|(refine(QZ bc (m+1) _ hc2 (by omega)).mono ?_;rintro e w3⟨y,rfl,y0,y1,hc3,hx3⟩))
   go_ret
   obtain⟨r1,r2⟩:=YQ (x*256+y);exact⟨_,rfl,r1,by omega,.inr r2,hc3,hx2.trans hx3⟩
def aeI (w:World) (e:Ending) (w':World):Prop:=∃b,e=.returned (.bool b)/\Below w.heap.size w w'
def He (ns:List Nd) (w:World) (e:Ending) (w':World):Prop:=∃v',e=.returned (.agg #[v'])/\au w' w.heap.size v' ns/\Below w.heap.size w w'
theorem zI (k x:Int) (w:World):Calls Tryz.prog 100 #[.int .i64 k,.int .i64 x] w (He [⟨k,x,ByteArray.empty⟩] w):=by
 go_enter Tryz.func100,Tryz.ntmps100;go_wp2;refine bodyPost_ret (v:=.agg #[.slice (some ⟨w.heap.size+1,0,none⟩) 1 1]) (by simp[results,Tryz.results100,go_sem]) rfl ⟨_,rfl,?_,((Below.refl _ _).alloc (Nat.le_refl _) _).alloc (by simp) _⟩;have:=World.ownsRow_lit (base:=w.heap.size) (size:=3) (e:=87) (w.alloc (.cells #[.slice (some ⟨w.heap.size+1,0,none⟩) 1 1] 27)) #[.int .i64 k,.int .i64 x,.string ByteArray.empty] 1 (by simp) (by unfold maxLen;omega) rfl;simp only[World.size_alloc]at this;exact this
theorem aeJ (v:Value) (ns:List Nd) (w:World) (hv:aZ w v ns):Calls Tryz.prog 183 #[.agg #[v]] w (aeI w):=by
 obtain⟨a,cap,rfl,hc,hat⟩:=hv;by_cases h1:ns.length=1
 ·obtain⟨b,o,rfl,_,n0,n1,n2⟩:=hat 0 (by omega);simp only[Nat.zero_mul,Nat.add_zero]at n0;have g1:((ns.length:Int)==1)=true:=by simp[h1]
  have hz:=cell_lt n0;go_enter Tryz.func183,Tryz.ntmps183;go_wp2;go_ret
  exact⟨_,rfl,(Below.refl _ _).alloc (Nat.le_refl _) _⟩
 ·have g1:((ns.length:Int)==1)=false:=by simp;omega
  go_enter Tryz.func183,Tryz.ntmps183;go_wp2;go_ret
  exact⟨_,rfl,(Below.refl _ _).alloc (Nat.le_refl _) _⟩
theorem YR (va vb:Value) (xs ys:List Nd) (k:Int) (w:World) (ha:aZ w va xs) (hb:aZ w vb ys) (hn:xs.length<=100000) (hm:ys.length<=100000) :
  Calls Tryz.prog 136 #[.agg #[va],.agg #[vb],.int .i64 k] w (He (xs++ys++[⟨k,0,ByteArray.empty⟩]) w):=by
 obtain⟨aa,ca,rfl⟩:=ha.slice;obtain⟨ab,cb,rfl⟩:=hb.slice;go_enter Tryz.func136,Tryz.ntmps136;have hB3:Below w.heap.size w (((w.alloc (.cells #[.slice aa xs.length ca] 27)).alloc (.cells #[.slice ab ys.length cb] 27)).alloc (.cells #[.slice none 0 0] 27)):=(((Below.refl _ _).alloc (Nat.le_refl _) _).alloc (by simp) _).alloc (by simp;omega) _;obtain⟨W3,hW3⟩:∃W3,W3=(((w.alloc (.cells #[.slice aa xs.length ca] 27)).alloc (.cells #[.slice ab ys.length cb] 27)).alloc (.cells #[.slice none 0 0] 27)):=⟨_,rfl⟩
 go_wp2_with (first
  |(at_builtin;refine Gh (ha.keep (hB3.alloc (by simp;omega) _)) (by omega) rfl (.tmp 8) (.tmp 10) rfl (w.heap.size+3) (.slice (some ⟨w.heap.size+3,0,none⟩) 0 0) [] rfl rfl (PE _ _ _ (by simp) (by simp)) (by simp) (by simp) ?_;intro v1 w1 h1 h2 h3;have h1:au w1 (w.heap.size+3) v1 xs:=h1;obtain⟨a1,c1,rfl⟩:=h1.slice;have hg1:Below (w.heap.size+3) (((w.alloc (.cells #[.slice aa xs.length ca] 27)).alloc (.cells #[.slice ab ys.length cb] 27)).alloc (.cells #[.slice none 0 0] 27)) w1:=((Below.refl _ _).alloc (by simp) _).grown h2 (by simp) (λk hk=>by simp[Value.ownBlock]at hk;omega);have hs1:=hg1.size;simp only[World.size_alloc]at hs1;have q1:=hg1.cell (p:=⟨w.heap.size+1,0,none⟩) (by simp);have q2:=hg1.cell (p:=⟨w.heap.size+2,0,none⟩) (by simp);have q3:=hg1.frozen (p:=⟨w.heap.size+2,0,none⟩) (by simp);simp[go_sem]at q1 q2 q3)
  |(at_builtin;refine Gh ((hb.keep hB3).keep (hg1.mono (by simp))) (by omega) rfl (.tmp 12) (.tmp 14) rfl (w.heap.size+3) _ _ rfl rfl h1 (by omega) (by omega) ?_;intro v4 w4 h4 h5 h6;obtain⟨zs,hzs,hzl⟩:∃zs,zs=xs++ys/\zs.length<=200000:=⟨_,rfl,by rw[List.length_append];omega⟩;replace h4:au w4 (w.heap.size+3) v4 zs:=hzs▸h4;have HZ:=Lib.hid hzs;clear hzs;obtain⟨a4,c4,rfl⟩:=h4.slice;have hg4:Below (w.heap.size+3) w1 w4:=(Below.refl _ _).grown h5 (by omega) (λj hj=>(World.ownsRow.lt h1 j hj).1);have hs4:=hg4.size;have p2:=hg4.cell (p:=⟨w.heap.size+2,0,none⟩) (by simp);have p3:=hg4.frozen (p:=⟨w.heap.size+2,0,none⟩) (by simp);rw[q2]at p2;rw[q3]at p3)
  |(at_builtin;refine Gh (v:=.slice (some ⟨w4.heap.size,0,none⟩) 1 1) (ns:=[⟨k,0,ByteArray.empty⟩]) (au.at (World.ownsRow_lit (base:=w4.heap.size) (size:=3) (e:=87) w4 #[.int .i64 k,.int .i64 0,.string ByteArray.empty] 1 (Nat.le_refl _) (by unfold maxLen;omega) rfl)) (by simp) rfl (.tmp 16) (.tmp 19) rfl (w.heap.size+3) _ _ rfl rfl (au.keep ((Below.refl _ _).alloc (Nat.le_refl _) _) h4) (by simp;omega) (by omega) ?_;intro v7 w7 h7 h8 h9;obtain⟨a7,c7,rfl⟩:=h7.slice;have lY:Below (w.heap.size+3) w4 w7:=((Below.refl _ _).alloc (by omega) _).grown h8 (by simp;omega) (λj hj=>(World.ownsRow.lt h4 j hj).1);have hs7:=lY.size;have r2:=lY.cell (p:=⟨w.heap.size+2,0,none⟩) (by simp);have r3:=lY.frozen (p:=⟨w.heap.size+2,0,none⟩) (by simp);rw[p2]at r2;rw[p3]at r3))
 rw[List.length_append]at h7;have i_:(w7.setCell { block:=w.heap.size+1+1,off:=0 } (.slice a7 (zs.length+1) c7)).cell? ⟨w.heap.size+1+1,0,none⟩=some (.slice a7 (zs.length+1) c7):=by
  have r2':w7.cell? ⟨w.heap.size+1+1,0,none⟩=some (.slice none 0 0):=r2;go_simp
 refine bodyPost_ret (v:=.agg #[.slice a7 (zs.length+1) c7]) (by simp[results,Tryz.results136,go_sem,i_]) rfl ⟨_,rfl,?_,?_⟩
 ·rw[<-HZ.out];exact au.mono (B:=w.heap.size+3) (by omega) (au.bY h7 (by show _<_;simp) _)
 ·exact(((((hB3.trans (hg1.mono (by omega))).trans (hg4.mono (by omega))).trans (lY.mono (by omega)))).setCell (by simp;omega) _)
theorem Q5 (va vb:Value) (xs ys:List Nd) (w:World) (ha:aZ w va xs) (hb:aZ w vb ys) (hn:xs.length<=100000) (hm:ys.length<=100000) :
  Calls Tryz.prog 76 #[.agg #[va],.agg #[vb]] w (He (xs++ys++[⟨15,0,ByteArray.empty⟩]) w):=by
 obtain⟨aa,ca,rfl⟩:=ha.slice;obtain⟨ab,cb,rfl⟩:=hb.slice;have hB3:Below w.heap.size w (((w.alloc (.cells #[.slice aa xs.length ca] 27)).alloc (.cells #[.slice ab ys.length cb] 27)).alloc (.cells #[.slice none 0 0] 27)):=(((Below.refl _ _).alloc (Nat.le_refl _) _).alloc (by simp) _).alloc (by simp;omega) _;obtain⟨zs,hzs⟩:∃zs,zs=xs++ys++[(⟨15,0,ByteArray.empty⟩:Nd)]:=⟨_,rfl⟩
 rw[<-hzs];have HZ:=Lib.hid hzs;clear hzs;go_enter Tryz.func76,Tryz.ntmps76;go_wp2_with (go_at_call 136;refine(YR _ _ xs ys 15 _ (ha.keep hB3) (hb.keep hB3) hn hm).mono ?_;rintro e w2⟨v2,rfl,ho2,hb2⟩;rw[<-HZ.out]at ho2;obtain⟨a2,c2,rfl⟩:=ho2.slice;have q2:=hb2.cell (p:=⟨w.heap.size+2,0,none⟩) (by simp);have q3:=hb2.frozen (p:=⟨w.heap.size+2,0,none⟩) (by simp);simp[go_sem]at q2 q3)
 have q2':w2.cell? ⟨w.heap.size+1+1,0,none⟩=some (.slice none 0 0):=q2;have i_:(w2.setCell { block:=w.heap.size+1+1,off:=0 } (.slice a2 zs.length c2)).cell? ⟨w.heap.size+1+1,0,none⟩=some (.slice a2 zs.length c2):=by go_simp
 refine bodyPost_ret (v:=.agg #[.slice a2 zs.length c2]) (by simp[results,Tryz.results76,go_sem,i_]) rfl ⟨_,rfl,?_,?_⟩
 ·exact au.mono (B:=w.heap.size+3) (by omega) (au.bY (by simpa using ho2) (by show _<_;simp) _)
 ·exact(hB3.trans (hb2.mono (by simp;omega))).setCell (by simp;omega) _
theorem Q7 (va vb:Value) (xs ys:List Nd) (w:World) (ha:aZ w va xs) (hb:aZ w vb ys) (hn:xs.length<=100000) (hm:ys.length<=100000) :
  Calls Tryz.prog 137 #[.agg #[va],.agg #[vb]] w (He (xs++ys++[⟨16,0,ByteArray.empty⟩]) w):=by
 obtain⟨aa,ca,rfl⟩:=ha.slice;obtain⟨ab,cb,rfl⟩:=hb.slice;have hB3:Below w.heap.size w (((w.alloc (.cells #[.slice aa xs.length ca] 27)).alloc (.cells #[.slice ab ys.length cb] 27)).alloc (.cells #[.slice none 0 0] 27)):=(((Below.refl _ _).alloc (Nat.le_refl _) _).alloc (by simp) _).alloc (by simp;omega) _;obtain⟨zs,hzs⟩:∃zs,zs=xs++ys++[(⟨16,0,ByteArray.empty⟩:Nd)]:=⟨_,rfl⟩
 rw[<-hzs];have HZ:=Lib.hid hzs;clear hzs;go_enter Tryz.func137,Tryz.ntmps137;go_wp2_with (go_at_call 136;refine(YR _ _ xs ys 16 _ (ha.keep hB3) (hb.keep hB3) hn hm).mono ?_;rintro e w2⟨v2,rfl,ho2,hb2⟩;rw[<-HZ.out]at ho2;obtain⟨a2,c2,rfl⟩:=ho2.slice;have q2:=hb2.cell (p:=⟨w.heap.size+2,0,none⟩) (by simp);have q3:=hb2.frozen (p:=⟨w.heap.size+2,0,none⟩) (by simp);simp[go_sem]at q2 q3)
 have q2':w2.cell? ⟨w.heap.size+1+1,0,none⟩=some (.slice none 0 0):=q2;have i_:(w2.setCell { block:=w.heap.size+1+1,off:=0 } (.slice a2 zs.length c2)).cell? ⟨w.heap.size+1+1,0,none⟩=some (.slice a2 zs.length c2):=by go_simp
 refine bodyPost_ret (v:=.agg #[.slice a2 zs.length c2]) (by simp[results,Tryz.results137,go_sem,i_]) rfl ⟨_,rfl,?_,?_⟩
 ·exact au.mono (B:=w.heap.size+3) (by omega) (au.bY (by simpa using ho2) (by show _<_;simp) _)
 ·exact(hB3.trans (hb2.mono (by simp;omega))).setCell (by simp;omega) _
theorem Hf (k:Int) (w:World):Calls Tryz.prog 53 #[.int .i64 k] w (He [⟨1,k,ByteArray.empty⟩] w):=by
 have hB3:Below w.heap.size w (w.alloc (.cells #[.slice none 0 0] 27)):=(Below.refl _ _).alloc (Nat.le_refl _) _;obtain⟨zs,hzs⟩:∃zs,zs=[(⟨1,k,ByteArray.empty⟩:Nd)]:=⟨_,rfl⟩
 rw[<-hzs];have HZ:=Lib.hid hzs;clear hzs;go_enter Tryz.func53,Tryz.ntmps53;go_wp2_with (go_at_call 100;refine(zI _ _ _).mono ?_;rintro e w2⟨v2,rfl,ho2,hb2⟩;rw[<-HZ.out]at ho2;obtain⟨a2,c2,rfl⟩:=ho2.slice;have q2:=hb2.cell (p:=⟨w.heap.size,0,none⟩) (by simp);have q3:=hb2.frozen (p:=⟨w.heap.size,0,none⟩) (by simp);simp[go_sem]at q2 q3)
 have i_:(w2.setCell { block:=w.heap.size,off:=0 } (.slice a2 zs.length c2)).cell? ⟨w.heap.size,0,none⟩=some (.slice a2 zs.length c2):=by go_simp
 refine bodyPost_ret (v:=.agg #[.slice a2 zs.length c2]) (by simp[results,Tryz.results53,go_sem,i_]) rfl ⟨_,rfl,?_,?_⟩
 ·exact au.mono (B:=w.heap.size+1) (by omega) (au.bY (by simpa using ho2) (by show _<_;simp) _)
 ·exact(hB3.trans (hb2.mono (by simp))).setCell (by simp) _
theorem Eu {P:Program} {ops:Array Oper} {Q:Exit->Act->World->Prop} {T:Nat->Prop} {w0:World} {i:Nat} {l:List Nat} {bs:Nat->Prop} {a:Act} {w:World} {o:Oper} (ho:ops[i]?=some o) (hk:gu o=.act) (hg:o.guard=none) (hC:ah T w0 w) (f:FuncId) (nH:∀k,T k->k<w0.heap.size)
  (h:∀K:(Nat->Prop)->Act->World->Prop,(∀bs a w,WX P ops (ah T w0) w0.heap.size Q l bs a w->K bs a w)->∃args,(∀w',ah T w0 w'->(execOp a.eval o).run P w'=.ok (.enter f args) w') /\
   ∀w1,ah T w0 w1->Below w.heap.size w w1->Calls P f args w1 λe w2=>∃v,e=.returned v/\ah T w1 w2/\(ah T w0 w2->K bs (a.put o.dst v) w2)):WX P ops (ah T w0) w0.heap.size Q (i::l) bs a w:=by
 intro o' ho';rw[ho]at ho';obtain rfl:=Option.some.inj ho';obtain⟨args,h1,h2⟩:=h _ λ_ _ _ h=>h;unfold jC jM;rw[if_pos (by simp[Region.wanted,hg])];simp only[hk];intro w1 hw1;have je:=(ah.grows T w0).grow _ _ hC hw1;unfold jL;rw[h1 w1 je];refine(h2 w1 je hw1).mono ?_;rintro e w2⟨v,e1,e2,e3⟩;exact⟨v,e1,je.trans e2,e2.size,λk hN _ hk=>e2.block k hk (λht=>by have:=nH k ht;omega),bs,λ_ h=>h,λ_ h=>.inl h,e3 (je.trans e2)⟩
def BQ (f:Int) (ns:List Nd):List Nd:=if 0<f then[⟨1,f,ByteArray.empty⟩]++ns++[⟨16,0,ByteArray.empty⟩]else ns
def uT (b:Int) (ns:List Nd):List Nd:=if 0<b then ns++[⟨1,b,ByteArray.empty⟩]++[⟨16,0,ByteArray.empty⟩]else ns
def jS (f:Int) (ns:List Nd) (b:Int):List Nd:=uT b (BQ f ns)
theorem Q8 (v:Value) (ns:List Nd) (f b:Int) (w:World) (hv:aZ w v ns) (hn:ns.length<=10000) :
  Calls Tryz.prog 77 #[.int .i64 f,.agg #[v],.int .i64 b] w λe w'=>∃v',e=.returned (.agg #[v'])/\aZ w' v' (jS f ns b)/\(v'=v\/au w' w.heap.size v' (jS f ns b))/\Below w.heap.size w w':=by
 obtain⟨aa,ca,rfl⟩:=hv.slice;have hB2:Below w.heap.size w ((w.alloc (.cells #[.slice aa ns.length ca] 27)).alloc (.cells #[.slice none 0 0] 27)):=((Below.refl _ _).alloc (Nat.le_refl _) _).alloc (by simp) _;by_cases hf:0<f
 ·obtain⟨zs,hzs⟩:∃zs,zs=BQ f ns:=⟨_,rfl⟩
  have hz1:zs=[⟨1,f,ByteArray.empty⟩]++ns++[⟨16,0,ByteArray.empty⟩]:=by rw[hzs,BQ,if_pos hf]
  have hzl:zs.length<=ns.length+2:=by rw[hz1];simp
  have HL:Hid (jS f ns b=uT b zs):=Lib.hid (by rw[hzs];rfl);have HZ:=Lib.hid hz1;clear hz1 hzs;go_enter Tryz.func77,Tryz.ntmps77;go_wp2_with fail
  refine rV (C:=ah (aQ) _) 2 [0,1,2,3] [4] (by kernel_rfl) (by kernel_rfl) (ah.grows _ _) (ah.refl _ _) ?_;iterate 1 (apply ay rfl rfl rfl;(focus intro u hc' hf';go_simp<;>rfl);intro K hK;go_simp;apply hK;clear hK K)
  refine aX rfl rfl rfl (ah.grows _ _) (ah.refl _ _) 53 (λK hK=>?_);apply Exists.intro;refine⟨λw' hw'=>?_,λw1 hw1 aF=>?_⟩;(focus go_simp;rfl);refine(Hf f _).mono ?_;rintro e w4⟨v4,rfl,bF,hb4⟩;refine⟨_,rfl,hb4,λhx=>?_⟩;go_simp;apply hK;clear hK K;obtain⟨a4,c4,rfl⟩:=bF.slice;iterate 1 (apply ay rfl rfl rfl;(focus intro u hc' hf';go_simp<;>rfl);intro K hK;go_simp;apply hK;clear hK K)
  refine aX rfl rfl rfl (ah.grows _ _) (hx) 137 (λK hK=>?_);apply Exists.intro;refine⟨λw' hw'=>?_,λw5 hw5 zJ=>?_⟩;(focus go_simp;rfl);refine(Q7 _ _ _ ns _ (bF.at.keep zJ) ((hv.keep hB2).keep (((Below.refl _ _).drew).trans (hw5.toBelow.mono (by simp)))) (by simp) (by omega)).mono ?_;rintro e w6⟨v6,rfl,dK,hb6⟩;refine⟨_,rfl,hb6,λhx=>?_⟩;go_simp;apply hK;clear hK K;rw[<-HZ.out]at dK;obtain⟨a6,c6,rfl⟩:=dK.slice;refine aK ?_;have qB:Below w.heap.size w w6:=hB2.trans (((Below.refl _ _).drew).trans (hx.toBelow.mono (by simp;omega)));have xW:=hx.toBelow;have Ew:w6.cell? ⟨w.heap.size,0,none⟩=some (.slice aa ns.length ca):=by
   rw[xW.cell (p:=⟨w.heap.size,0,none⟩) (by simp;omega)];simp[go_sem]
  have Ey:w6.frozen? ⟨w.heap.size,0,none⟩=false:=by
   rw[xW.frozen (p:=⟨w.heap.size,0,none⟩) (by simp;omega)];simp[go_sem]
  have Ez:w6.cell? ⟨w.heap.size+1,0,none⟩=some (.slice none 0 0):=by
   rw[xW.cell (p:=⟨w.heap.size+1,0,none⟩) (by simp)];simp[go_sem]
  have EC:w6.frozen? ⟨w.heap.size+1,0,none⟩=false:=by
   rw[xW.frozen (p:=⟨w.heap.size+1,0,none⟩) (by simp)];simp[go_sem]
  have hs5:w.heap.size+2<=w5.heap.size:=by have:=hw5.size;simpa using this
  have ED:au w6 (w.heap.size+2) (.slice a6 zs.length c6) zs:=au.mono hs5 dK;have hs6:w.heap.size+2<=w6.heap.size:=by have:=hb6.size;omega
  clear hx hw5 zJ hb6 bF hb4 hw1 aF xW dK hs5;refine⟨ah (λj=>j=w.heap.size) w6,w6.heap.size,ah.grows _ _,ah.refl _ _,?_⟩;refine eH rfl rfl rfl (ah.grows _ _) (ah.refl _ _) (λK hK=>?_);intro w7 hw7 hb7;have Q9:w7.cell? ⟨w.heap.size,0,none⟩=some (.slice aa ns.length ca):=ak hb7 Ew;have Q_:w7.frozen? ⟨w.heap.size,0,none⟩=false:=(hb7.frozen (p:=⟨w.heap.size,0,none⟩) (by show w.heap.size<_;omega)).trans Ey;have Rf:w7.cell? ⟨w.heap.size+1,0,none⟩=some (.slice none 0 0):=ak hb7 Ez;have Rh:w7.frozen? ⟨w.heap.size+1,0,none⟩=false:=(hb7.frozen (p:=⟨w.heap.size+1,0,none⟩) (by show w.heap.size+1<_;omega)).trans EC;refine⟨w7.setCell ⟨w.heap.size,0,none⟩ (.slice a6 zs.length c6),?_,⟨aB hw7 (.inr rfl) _,by simp,λj hj _ _=>Below.heap_setCell _ _ _ _ (λh=>by have:j=w.heap.size:=h;omega)⟩,?_⟩
  ·go_simp
  go_simp;refine hK _ _ _ ?_;clear hK K;refine aK ?_;obtain⟨W,hW⟩:∃W,W=w7.setCell ⟨w.heap.size,0,none⟩ (.slice a6 zs.length c6):=⟨_,rfl⟩
  have yb:W.cell? ⟨w.heap.size,0,none⟩=some (.slice a6 zs.length c6):=by rw[hW];go_simp
  have yf:W.frozen? ⟨w.heap.size,0,none⟩=false:=by rw[hW];go_simp
  have yr:W.cell? ⟨w.heap.size+1,0,none⟩=some (.slice none 0 0):=by rw[hW];go_simp
  have yg:W.frozen? ⟨w.heap.size+1,0,none⟩=false:=by rw[hW];go_simp
  have yo:au W (w.heap.size+2) (.slice a6 zs.length c6) zs:=by rw[hW];exact au.bY (ED.keep hb7) (by show _<_;simp) _
  have yB:Below w.heap.size w W:=by rw[hW];exact(qB.trans (hb7.mono (by omega))).setCell (Nat.le_refl _) _
  have ys:w.heap.size+2<=W.heap.size:=by rw[hW];have:=hb7.size;simp;omega
  have yv:aZ W (.slice a6 zs.length c6) zs:=yo.at
  have ys1:w.heap.size<W.heap.size:=by omega
  have yk:Hid (∀u,aZ (W.setCell ⟨w.heap.size+1,0,none⟩ u) (.slice a6 zs.length c6) zs/\(Value.slice a6 zs.length c6=.slice aa ns.length ca\/au (W.setCell ⟨w.heap.size+1,0,none⟩ u) w.heap.size (.slice a6 zs.length c6) zs)):=Lib.hid λu=>⟨(au.bY yo (by show _<_;simp) _).at,.inr (au.mono (by omega) (au.bY yo (by show _<_;simp) _))⟩
  rw[<-hW];clear yo hW Q9 Q_ Rf Rh hw7 hb7 Ew Ey Ez EC hs6 ED qB;by_cases hb:0<b
  ·obtain⟨us,hus⟩:∃us,us=uT b zs:=⟨_,rfl⟩
   have hu1:us=zs++[⟨1,b,ByteArray.empty⟩]++[⟨16,0,ByteArray.empty⟩]:=by rw[hus,uT,if_pos hb]
   have hul:us.length<=ns.length+4:=by rw[hu1];simp;omega
   have HU:Hid (jS f ns b=us):=Lib.hid (by rw[HL.out,hus]);have HY:=Lib.hid hu1;clear hu1 hus;go_wp2_with fail
   refine rV (C:=ah (aQ) _) 4 [0,1,2,3] [4] (by kernel_rfl) (by kernel_rfl) (ah.grows _ _) (ah.refl _ _) ?_;iterate 2 (apply ay rfl rfl rfl;(focus intro u hc' hf';go_simp<;>rfl);intro K hK;go_simp;apply hK;clear hK K)
   refine aX rfl rfl rfl (ah.grows _ _) (ah.refl _ _) 53 (λK hK=>?_);apply Exists.intro;refine⟨λw' hw'=>?_,λw1 hw1 aF=>?_⟩;(focus go_simp;rfl);refine(Hf b _).mono ?_;rintro e w4⟨v4,rfl,bF,hb4⟩;refine⟨_,rfl,hb4,λhx=>?_⟩;go_simp;apply hK;clear hK K;obtain⟨a4,c4,rfl⟩:=bF.slice;refine aX rfl rfl rfl (ah.grows _ _) (hx) 137 (λK hK=>?_);apply Exists.intro;refine⟨λw' hw'=>?_,λw5 hw5 zJ=>?_⟩;(focus go_simp;rfl);refine(Q7 _ _ zs _ _ (yv.keep (((Below.refl _ _).drew).trans (hw5.toBelow.mono (by simp)))) (bF.at.keep zJ) (by omega) (by simp)).mono ?_;rintro e w6⟨v6,rfl,dK,hb6⟩;refine⟨_,rfl,hb6,λhx=>?_⟩;go_simp;apply hK;clear hK K;rw[<-HY.out]at dK;obtain⟨a8,c8,rfl⟩:=dK.slice;refine aK ?_;have xW:=hx.toBelow;have qB:Below W.heap.size W w6:=((Below.refl _ _).drew).trans (hx.toBelow.mono (by simp));have Ew:w6.cell? ⟨w.heap.size,0,none⟩=some (.slice a6 zs.length c6):=ak qB yb;have Ey:w6.frozen? ⟨w.heap.size,0,none⟩=false:=(qB.frozen (p:=⟨w.heap.size,0,none⟩) (by show w.heap.size<_;omega)).trans yf;have Ez:w6.cell? ⟨w.heap.size+1,0,none⟩=some (.slice none 0 0):=ak qB yr;have EC:w6.frozen? ⟨w.heap.size+1,0,none⟩=false:=(qB.frozen (p:=⟨w.heap.size+1,0,none⟩) (by show w.heap.size+1<_;omega)).trans yg;have hs5:w.heap.size+2<=w5.heap.size:=by have:=hw5.size;simp at this;omega
   have ED:au w6 (w.heap.size+2) (.slice a8 us.length c8) us:=au.mono hs5 dK;have hs6:w.heap.size+2<=w6.heap.size:=by have:=hb6.size;omega
   clear hx hw5 zJ hb6 bF hb4 xW dK hs5;refine⟨ah (λj=>j=w.heap.size) w6,w6.heap.size,ah.grows _ _,ah.refl _ _,?_⟩;refine eH rfl rfl rfl (ah.grows _ _) (ah.refl _ _) (λK hK=>?_);intro w7 hw7 hb7;have Q9:w7.cell? ⟨w.heap.size,0,none⟩=some (.slice a6 zs.length c6):=ak hb7 Ew;have Q_:w7.frozen? ⟨w.heap.size,0,none⟩=false:=(hb7.frozen (p:=⟨w.heap.size,0,none⟩) (by show w.heap.size<_;omega)).trans Ey;have Rf:w7.cell? ⟨w.heap.size+1,0,none⟩=some (.slice none 0 0):=ak hb7 Ez;have Rh:w7.frozen? ⟨w.heap.size+1,0,none⟩=false:=(hb7.frozen (p:=⟨w.heap.size+1,0,none⟩) (by show w.heap.size+1<_;omega)).trans EC;refine⟨w7.setCell ⟨w.heap.size,0,none⟩ (.slice a8 us.length c8),?_,⟨aB hw7 (.inr rfl) _,by simp,λj hj _ _=>Below.heap_setCell _ _ _ _ (λh=>by have:j=w.heap.size:=h;omega)⟩,?_⟩
   ·go_simp
   go_simp;refine hK _ _ _ ?_;clear hK K;refine aK ?_;go_wp2;have i_:((w7.setCell ⟨w.heap.size,0,none⟩ (.slice a8 us.length c8)).setCell ⟨w.heap.size+1,0,none⟩ (.slice a8 us.length c8)).cell? ⟨w.heap.size+1,0,none⟩=some (.slice a8 us.length c8):=by go_simp
   have hO:au ((w7.setCell ⟨w.heap.size,0,none⟩ (.slice a8 us.length c8)).setCell ⟨w.heap.size+1,0,none⟩ (.slice a8 us.length c8)) (w.heap.size+2) (.slice a8 us.length c8) us:=au.bY (au.bY (ED.keep hb7) (by show _<_;simp) _) (by show _<_;simp) _;refine bodyPost_ret (v:=.agg #[.slice a8 us.length c8]) (by simp[results,Tryz.results77,go_sem,i_]) rfl ⟨_,rfl,?_,.inr ?_,?_⟩
   ·rw[HU.out];exact hO.at
   ·rw[HU.out];exact au.mono (by omega) hO
   ·exact(((yB.trans (qB.mono yB.size)).trans (hb7.mono (by omega))).setCell (Nat.le_refl _) _).setCell (by simp) _
  ·have HU:Hid (jS f ns b=zs):=Lib.hid (by rw[HL.out,uT,if_neg hb]);go_wp2;have i_:(W.setCell ⟨w.heap.size+1,0,none⟩ (.slice a6 zs.length c6)).cell? ⟨w.heap.size+1,0,none⟩=some (.slice a6 zs.length c6):=by go_simp
   refine bodyPost_ret (v:=.agg #[.slice a6 zs.length c6]) (by simp[results,Tryz.results77,go_sem,i_]) rfl ⟨_,rfl,?_,?_,?_⟩
   ·rw[HU.out];exact(yk.out _).1
   ·rw[HU.out];exact(yk.out _).2
   ·exact yB.setCell (by simp) _
 ·have HL:Hid (jS f ns b=uT b ns):=Lib.hid (by rw[jS,BQ,if_neg hf]);by_cases hb:0<b
  ·obtain⟨us,hus⟩:∃us,us=uT b ns:=⟨_,rfl⟩
   have hu1:us=ns++[⟨1,b,ByteArray.empty⟩]++[⟨16,0,ByteArray.empty⟩]:=by rw[hus,uT,if_pos hb]
   have hul:us.length<=ns.length+4:=by rw[hu1];simp
   have HU:Hid (jS f ns b=us):=Lib.hid (by rw[HL.out,hus]);have HY:=Lib.hid hu1;clear hu1 hus;go_enter Tryz.func77,Tryz.ntmps77;go_wp2_with fail
   obtain⟨W,hW⟩:∃W,W=(w.alloc (.cells #[.slice aa ns.length ca] 27)).alloc (.cells #[.slice none 0 0] 27):=⟨_,rfl⟩
   have yb:W.cell? ⟨w.heap.size,0,none⟩=some (.slice aa ns.length ca):=by rw[hW];simp[go_sem]
   have yf:W.frozen? ⟨w.heap.size,0,none⟩=false:=by rw[hW];simp[go_sem]
   have yr:W.cell? ⟨w.heap.size+1,0,none⟩=some (.slice none 0 0):=by rw[hW];simp[go_sem]
   have yg:W.frozen? ⟨w.heap.size+1,0,none⟩=false:=by rw[hW];simp[go_sem]
   have yB:Below w.heap.size w W:=by rw[hW];exact hB2
   have ys:w.heap.size+2<=W.heap.size:=by rw[hW];simp
   have ys1:w.heap.size<W.heap.size:=by omega
   have yv:aZ W (.slice aa ns.length ca) ns:=hv.keep yB;have hzl:ns.length<=ns.length+2:=by omega
   have yk:Hid (∀u,aZ (W.setCell ⟨w.heap.size+1,0,none⟩ u) (.slice aa ns.length ca) ns/\(Value.slice aa ns.length ca=.slice aa ns.length ca\/au (W.setCell ⟨w.heap.size+1,0,none⟩ u) w.heap.size (.slice aa ns.length ca) ns)):=Lib.hid λu=>⟨hv.keep (yB.setCell (by simp) _),.inl rfl⟩
   rw[<-hW];clear hW;refine rV (C:=ah (aQ) _) 4 [0,1,2,3] [4] (by kernel_rfl) (by kernel_rfl) (ah.grows _ _) (ah.refl _ _) ?_;iterate 2 (apply ay rfl rfl rfl;(focus intro u hc' hf';go_simp<;>rfl);intro K hK;go_simp;apply hK;clear hK K)
   refine aX rfl rfl rfl (ah.grows _ _) (ah.refl _ _) 53 (λK hK=>?_);apply Exists.intro;refine⟨λw' hw'=>?_,λw1 hw1 aF=>?_⟩;(focus go_simp;rfl);refine(Hf b _).mono ?_;rintro e w4⟨v4,rfl,bF,hb4⟩;refine⟨_,rfl,hb4,λhx=>?_⟩;go_simp;apply hK;clear hK K;obtain⟨a4,c4,rfl⟩:=bF.slice;refine aX rfl rfl rfl (ah.grows _ _) (hx) 137 (λK hK=>?_);apply Exists.intro;refine⟨λw' hw'=>?_,λw5 hw5 zJ=>?_⟩;(focus go_simp;rfl);refine(Q7 _ _ ns _ _ (yv.keep (((Below.refl _ _).drew).trans (hw5.toBelow.mono (by simp)))) (bF.at.keep zJ) (by omega) (by simp)).mono ?_;rintro e w6⟨v6,rfl,dK,hb6⟩;refine⟨_,rfl,hb6,λhx=>?_⟩;go_simp;apply hK;clear hK K;rw[<-HY.out]at dK;obtain⟨a8,c8,rfl⟩:=dK.slice;refine aK ?_;have xW:=hx.toBelow;have qB:Below W.heap.size W w6:=((Below.refl _ _).drew).trans (hx.toBelow.mono (by simp));have Ew:w6.cell? ⟨w.heap.size,0,none⟩=some (.slice aa ns.length ca):=ak qB yb;have Ey:w6.frozen? ⟨w.heap.size,0,none⟩=false:=(qB.frozen (p:=⟨w.heap.size,0,none⟩) (by show w.heap.size<_;omega)).trans yf;have Ez:w6.cell? ⟨w.heap.size+1,0,none⟩=some (.slice none 0 0):=ak qB yr;have EC:w6.frozen? ⟨w.heap.size+1,0,none⟩=false:=(qB.frozen (p:=⟨w.heap.size+1,0,none⟩) (by show w.heap.size+1<_;omega)).trans yg;have hs5:w.heap.size+2<=w5.heap.size:=by have:=hw5.size;simp at this;omega
   have ED:au w6 (w.heap.size+2) (.slice a8 us.length c8) us:=au.mono hs5 dK;have hs6:w.heap.size+2<=w6.heap.size:=by have:=hb6.size;omega
   clear hx hw5 zJ hb6 bF hb4 xW dK hs5;refine⟨ah (λj=>j=w.heap.size) w6,w6.heap.size,ah.grows _ _,ah.refl _ _,?_⟩;refine eH rfl rfl rfl (ah.grows _ _) (ah.refl _ _) (λK hK=>?_);intro w7 hw7 hb7;have Q9:w7.cell? ⟨w.heap.size,0,none⟩=some (.slice aa ns.length ca):=ak hb7 Ew;have Q_:w7.frozen? ⟨w.heap.size,0,none⟩=false:=(hb7.frozen (p:=⟨w.heap.size,0,none⟩) (by show w.heap.size<_;omega)).trans Ey;have Rf:w7.cell? ⟨w.heap.size+1,0,none⟩=some (.slice none 0 0):=ak hb7 Ez;have Rh:w7.frozen? ⟨w.heap.size+1,0,none⟩=false:=(hb7.frozen (p:=⟨w.heap.size+1,0,none⟩) (by show w.heap.size+1<_;omega)).trans EC;refine⟨w7.setCell ⟨w.heap.size,0,none⟩ (.slice a8 us.length c8),?_,⟨aB hw7 (.inr rfl) _,by simp,λj hj _ _=>Below.heap_setCell _ _ _ _ (λh=>by have:j=w.heap.size:=h;omega)⟩,?_⟩
   ·go_simp
   go_simp;refine hK _ _ _ ?_;clear hK K;refine aK ?_;go_wp2;have i_:((w7.setCell ⟨w.heap.size,0,none⟩ (.slice a8 us.length c8)).setCell ⟨w.heap.size+1,0,none⟩ (.slice a8 us.length c8)).cell? ⟨w.heap.size+1,0,none⟩=some (.slice a8 us.length c8):=by go_simp
   have hO:au ((w7.setCell ⟨w.heap.size,0,none⟩ (.slice a8 us.length c8)).setCell ⟨w.heap.size+1,0,none⟩ (.slice a8 us.length c8)) (w.heap.size+2) (.slice a8 us.length c8) us:=au.bY (au.bY (ED.keep hb7) (by show _<_;simp) _) (by show _<_;simp) _;refine bodyPost_ret (v:=.agg #[.slice a8 us.length c8]) (by simp[results,Tryz.results77,go_sem,i_]) rfl ⟨_,rfl,?_,.inr ?_,?_⟩
   ·rw[HU.out];exact hO.at
   ·rw[HU.out];exact au.mono (by omega) hO
   ·exact(((yB.trans (qB.mono yB.size)).trans (hb7.mono (by omega))).setCell (Nat.le_refl _) _).setCell (by simp) _
  ·have HU:Hid (jS f ns b=ns):=Lib.hid (by rw[HL.out,uT,if_neg hb]);go_enter Tryz.func77,Tryz.ntmps77;go_wp2;have hB3:Below w.heap.size w ((w.alloc (.cells #[.slice aa ns.length ca] 27)).alloc (.cells #[.slice aa ns.length ca] 27)):=((Below.refl _ _).alloc (Nat.le_refl _) _).alloc (by simp) _;refine bodyPost_ret (v:=.agg #[.slice aa ns.length ca]) (by simp[results,Tryz.results77,go_sem]) rfl ⟨_,rfl,?_,.inl rfl,hB3⟩;rw[HU.out];exact hv.keep hB3
def aeK (bc m:Nat) (w:World) (e:Ending) (w':World):Prop:=∃x:Bool,e=.returned (.bool x)/\aW bc (m+2) w'/\ah (λk=>k=bc) w w'
theorem one_any (bc m:Nat) (n:Int) (w:World) (h:aW bc m w) (hm:m+2<=1099511627776) (hn:n<=1048576) :
  Calls Tryz.prog 39 #[.pointer (some ⟨bc,0,none⟩),.int .i64 n] w (aeK bc m w):=by
 go_enter Tryz.func39,Tryz.ntmps39;go_wp2_with (go_at_call 38;refine(pick_any bc m n _ h hm hn).mono ?_;rintro e w2⟨x,rfl,x0,x1,x2,hc2,hx2⟩)
 go_ret
 exact⟨_,rfl,hc2,hx2⟩
theorem aeL (a b:Int) (w:World):Calls Tryz.prog 202 #[.int .i64 a,.int .i64 b] w λe w'=>e=.returned (.int .i64 (if b<a then a else b))/\w=w':=by
 go_enter Tryz.func202,Tryz.ntmps202;go_wp2;all_goals go_ret
 all_goals simp_all
 all_goals omega
theorem YS (bc m:Nat) (p:Int) (w:World) (h:aW bc m w) (hm:m+2<=1099511627776) (hn:p<=1048576) :
  Calls Tryz.prog 181 #[.pointer (some ⟨bc,0,none⟩),.int .i64 p] w (YP bc m (if 1<p then p else 1) w):=by
 obtain⟨q,hq⟩:∃q,q=(if 1<p then p else 1):=⟨_,rfl⟩
 have HQ:=Lib.hid hq;have hq2:q<=1048576:=by rw[hq];split<;>omega
 rw[<-hq];clear hq;go_enter Tryz.func181,Tryz.ntmps181;go_wp2_with (first
  |(go_at_call 202;refine(aeL _ _ _).mono ?_;rintro e w2⟨rfl,rfl⟩;rw[<-HQ.out])
  |(go_at_call 38;refine(pick_any bc m q _ h hm hq2).mono ?_;rintro e w2⟨x,rfl,x0,x1,x2,hc2,hx2⟩))
 go_ret
 exact⟨_,rfl,x0,x1,x2,hc2,hx2⟩
def Ri (w:World) (v:Value) (xs:List Int):Prop:=iT 1 v xs.length λi b o=>∃h:i<xs.length,w.cell? ⟨b,o,none⟩=some (.int .i64 xs[i])
theorem Rj (bc m:Nat) (v:Value) (xs:List Int) (w:World) (h:aW bc m w) (hm:m+2<=1099511627776) (hv:Ri w v xs) (h0:0<xs.length) (hl:xs.length<=1000) (hne:∀k,v.ownBlock=some k->k≠bc) :
  Calls Tryz.prog 80 #[.pointer (some ⟨bc,0,none⟩),v] w λe w'=>∃x∈xs,e=.returned (.int .i64 x)/\aW bc (m+2) w'/\ah (λk=>k=bc) w w':=by
 obtain⟨a,cap,rfl,hc,BR⟩:=hv;obtain⟨b,o,rfl,_⟩:=BR 0 h0;have hbne:¬b=bc:=hne b rfl;have hat:Hid (∀i,∀hi:i<xs.length,w.cell? ⟨b,o+i,none⟩=some (.int .i64 xs[i])):=Lib.hid λi hi=>by
  obtain⟨b',o',e,_,hcl⟩:=BR i hi;simp only[Option.some.injEq,Addr.mk.injEq,and_true]at e;obtain⟨rfl,rfl⟩:=e;rw[Nat.mul_one]at hcl;exact hcl
 clear BR;go_enter Tryz.func80,Tryz.ntmps80;have hpick:=(pick_any bc m xs.length w h hm (by omega)).mono (R':=λe w2=>∃i:Nat,∃hi:i<xs.length,e=.returned (.int .i64 (i:Int))/\w2.cell? ⟨b,o+i,none⟩=some (.int .i64 xs[i])/\aW bc (m+2) w2/\ah (λk=>k=bc) w w2) (by
  rintro e w2⟨x,rfl,x0,x1,x2,hc2,hx2⟩;obtain⟨i,rfl⟩:=Int.eq_ofNat_of_zero_le x0;have hi:i<xs.length:=by omega
  have hcl:=hat.out i hi;exact⟨i,hi,rfl,(hx2.cell.1 b _ (cell_lt hcl) hbne).trans hcl,hc2,hx2⟩)
 go_wp2_with (go_at_call 38;refine hpick.mono ?_;rintro e w2⟨i,hi,rfl,hcl,hc2,hx2⟩)
 go_ret
 exact⟨_,List.getElem_mem _,rfl,hc2,hx2⟩
def Rk (w:World) (v:Value) (xs:List ByteArray):Prop:=iT 1 v xs.length λi b o=>∃h:i<xs.length,w.cell? ⟨b,o,none⟩=some (.string xs[i])
theorem Ll (bc m:Nat) (v:Value) (xs:List ByteArray) (w:World) (h:aW bc m w) (hm:m+2<=1099511627776) (hv:Rk w v xs) (h0:0<xs.length) (hl:xs.length<=1000) (hne:∀k,v.ownBlock=some k->k≠bc) :
  Calls Tryz.prog 49 #[.pointer (some ⟨bc,0,none⟩),v] w λe w'=>∃x∈xs,e=.returned (.string x)/\aW bc (m+2) w'/\ah (λk=>k=bc) w w':=by
 obtain⟨a,cap,rfl,hc,BR⟩:=hv;obtain⟨b,o,rfl,_⟩:=BR 0 h0;have hbne:¬b=bc:=hne b rfl;have hat:Hid (∀i,∀hi:i<xs.length,w.cell? ⟨b,o+i,none⟩=some (.string xs[i])):=Lib.hid λi hi=>by
  obtain⟨b',o',e,_,hcl⟩:=BR i hi;simp only[Option.some.injEq,Addr.mk.injEq,and_true]at e;obtain⟨rfl,rfl⟩:=e;rw[Nat.mul_one]at hcl;exact hcl
 clear BR;go_enter Tryz.func49,Tryz.ntmps49;have hpick:=(pick_any bc m xs.length w h hm (by omega)).mono (R':=λe w2=>∃i:Nat,∃hi:i<xs.length,e=.returned (.int .i64 (i:Int))/\w2.cell? ⟨b,o+i,none⟩=some (.string xs[i])/\aW bc (m+2) w2/\ah (λk=>k=bc) w w2) (by
  rintro e w2⟨x,rfl,x0,x1,x2,hc2,hx2⟩;obtain⟨i,rfl⟩:=Int.eq_ofNat_of_zero_le x0;have hi:i<xs.length:=by omega
  have hcl:=hat.out i hi;exact⟨i,hi,rfl,(hx2.cell.1 b _ (cell_lt hcl) hbne).trans hcl,hc2,hx2⟩)
 go_wp2_with (go_at_call 38;refine hpick.mono ?_;rintro e w2⟨i,hi,rfl,hcl,hc2,hx2⟩)
 go_ret
 exact⟨_,List.getElem_mem _,rfl,hc2,hx2⟩
def YT (bc m:Nat) (p:Int) (w:World) (e:Ending) (w':World):Prop:=∃(k x:Int) (v':Value),e=.returned (.agg #[v'])/\2<=k/\k<=14/\0<=x/\x<1048576/\(x=0\/x<p)/\au w' w.heap.size v' [⟨k,x,ByteArray.empty⟩]/\aW bc (m+4) w'/\ah (λk=>k=bc) w w'
theorem aeM (bc m:Nat) (p:Int) (d:Bool) (w:World) (h:aW bc m w) (hm:m+4<=1099511627776) (hp:1<p) (hp2:p<=1048576) :
  Calls Tryz.prog 133 #[.pointer (some ⟨bc,0,none⟩),.int .i64 p,.bool d] w (YT bc m p w):=by
 have hbz:=h.lt;have h1:aW bc m (w.alloc (.cells #[.slice none 0 0] 27)):=h.keep (aj _ _);have hpe:(if 1<p then p else 1)=p:=by rw[if_pos hp]
 have hpick:=(pick_any bc m 13 _ h1 (by omega) (by omega)).mono (R':=λe w2=>∃x:Int,e=.returned (.int .i64 x)/\0<=x/\x<=12/\aW bc (m+2) w2/\ah (λk=>k=bc) (w.alloc (.cells #[.slice none 0 0] 27)) w2) (by
  rintro e w2⟨x,rfl,x0,x1,x2,hc2,hx2⟩;exact⟨x,rfl,x0,by omega,hc2,hx2⟩)
 have hres:∀w2,ah (λk=>k=bc) (w.alloc (.cells #[.slice none 0 0] 27)) w2->∀w3,Below w2.heap.size w2 w3->w3.cell? ⟨w.heap.size,0,none⟩=some (.slice none 0 0)/\w3.frozen? ⟨w.heap.size,0,none⟩=false/\w.heap.size<w3.heap.size:=by
  intro w2 hx w3 hb;have hs:=hx.size;simp only[World.size_alloc]at hs;have hne:¬w.heap.size=bc:=by omega
  refine⟨ak hb ((hx.cell.1 _ _ (by simp) hne).trans (by simp[go_sem])),(hb.frozen (p:=⟨w.heap.size,0,none⟩) (by show w.heap.size<_;omega)).trans ((hx.cell.2 _ _ (by simp) hne).trans (by simp[go_sem])),by have:=hb.size;omega⟩
 have hfin:∀(k x:Int) (w2 w3:World) (m2:Nat) (v3:Value),m2<=m+4->2<=k->k<=14->0<=x->x<1048576->(x=0\/x<p)->aW bc m2 w2->ah (λk=>k=bc) (w.alloc (.cells #[.slice none 0 0] 27)) w2->au w3 w2.heap.size v3 [⟨k,x,ByteArray.empty⟩]->Below w2.heap.size w2 w3->YT bc m p w (.returned (.agg #[v3])) (w3.setCell ⟨w.heap.size,0,none⟩ v3):=by
  intro k x w2 w3 m2 v3 hm2 k1 k2 y1 y2 y3 hc2 hx2 ho hb;have hs:=hx2.size;simp only[World.size_alloc]at hs;have hE:ah (λk=>k=bc) w (w3.setCell ⟨w.heap.size,0,none⟩ v3):=aB ((((ah.refl (λk=>k=bc) w).below (aj w _)).trans hx2).below hb) (.inl (Nat.le_refl _)) _;refine⟨k,x,v3,rfl,k1,k2,y1,y2,y3,au.mono (B:=w2.heap.size) (by omega) (au.bY ho (by show w.heap.size<_;omega) _),?_,hE⟩;have hc3:=(hc2.mono hm2).keep hb;exact hc3.exc (T:=λk=>k=w.heap.size) (aB (a:=⟨w.heap.size,0,none⟩) (ah.refl (λk=>k=w.heap.size) _) (.inr rfl) _) (λk hk=>by omega)
 cases d
 ·go_enter Tryz.func133,Tryz.ntmps133;go_wp2_with (first
   |(go_at_call 38;refine hpick.mono ?_;rintro e w2⟨x,rfl,x0,x1,hc2,hx2⟩)
   |(go_at_call 181;refine(YS bc (m+2) p _ hc2 (by omega) hp2).mono ?_;rw[hpe];rintro e w3⟨y,rfl,y0,y1,y2,hc3,hx3⟩)
   |(go_at_call 100;refine(zI _ _ _).mono ?_;rintro e w4⟨v4,rfl,bF,hb4⟩;obtain⟨a4,c4,rfl⟩:=bF.slice;obtain⟨qc,qf,qz⟩:=hres _ (by first|exact hx2.trans hx3|exact hx2) _ hb4))
  all_goals
   have i_:(w4.setCell { block:=w.heap.size,off:=0 } (.slice a4 1 c4)).cell? ⟨w.heap.size,0,none⟩=some (.slice a4 1 c4):=by go_simp
   refine bodyPost_ret (v:=.agg #[.slice a4 1 c4]) (by simp[results,Tryz.results133,go_sem,i_]) rfl ?_
   first
    |(refine hfin _ _ w3 w4 (m+2+2) _ (by omega) ?_ ?_ y0 y1 y2 hc3 (hx2.trans hx3) bF hb4<;>first|omega|(simp only[beq_iff_eq]at *;omega))
    |(refine hfin _ _ w2 w4 (m+2) _ (by omega) ?_ ?_ (by omega) (by omega) (.inl rfl) hc2 hx2 bF hb4<;>first|omega|(simp only[beq_iff_eq]at *;omega))
 ·go_enter Tryz.func133,Tryz.ntmps133;go_wp2_with (first
   |(go_at_call 38;refine hpick.mono ?_;rintro e w2⟨x,rfl,x0,x1,hc2,hx2⟩)
   |(go_at_call 181;refine(YS bc (m+2) p _ hc2 (by omega) hp2).mono ?_;rw[hpe];rintro e w3⟨y,rfl,y0,y1,y2,hc3,hx3⟩)
   |(go_at_call 100;refine(zI _ _ _).mono ?_;rintro e w4⟨v4,rfl,bF,hb4⟩;obtain⟨a4,c4,rfl⟩:=bF.slice;obtain⟨qc,qf,qz⟩:=hres _ (by first|exact hx2.trans hx3|exact hx2) _ hb4))
  all_goals
   have i_:(w4.setCell { block:=w.heap.size,off:=0 } (.slice a4 1 c4)).cell? ⟨w.heap.size,0,none⟩=some (.slice a4 1 c4):=by go_simp
   refine bodyPost_ret (v:=.agg #[.slice a4 1 c4]) (by simp[results,Tryz.results133,go_sem,i_]) rfl ?_
   first
    |(refine hfin _ _ w3 w4 (m+2+2) _ (by omega) ?_ ?_ y0 y1 y2 hc3 (hx2.trans hx3) bF hb4<;>first|omega|(simp only[beq_iff_eq]at *;omega))
    |(refine hfin _ _ w2 w4 (m+2) _ (by omega) ?_ ?_ (by omega) (by omega) (.inl rfl) hc2 hx2 bF hb4<;>first|omega|(simp only[beq_iff_eq]at *;omega))
def Dn (k:Nat) (ns:List Nd):Prop:=∃t:Tr,(∀r st,bZ (ns++r) st=bZ r (t::st))/\t.Ok/\ns.length<=k/\t.count<=k/\∀n∈ns,n.name.size<=8
theorem Dn.mono {k k':Nat} {ns:List Nd} (h:Dn k ns) (hk:k<=k'):Dn k' ns:=by
 obtain⟨t,h1,h2,h3,h4,h5⟩:=h;exact⟨t,h1,h2,by omega,by omega,h5⟩
theorem Dn.leaf {n:Nd} (h:wH n) (h8:n.name.size<=8:=by simp):Dn 1 [n]:=by
 refine⟨.leaf n,λr st=>?_,h,by simp,by simp[Tr.count],by simpa using h8⟩;have h5:n.kind≠15/\n.kind≠16:=by rcases h with h|h<;>omega
 cases st<;>simp[bZ,h5.1,h5.2]
theorem Dn.bin {k l:Nat} {xs ys:List Nd} (c:Int) (hc:c=15\/c=16) (hx:Dn k xs) (hy:Dn l ys):Dn (k+l+1) (xs++ys++[⟨c,0,ByteArray.empty⟩]):=by
 obtain⟨t,h1,h2,h3,h4,h5⟩:=hx;obtain⟨u,g1,g2,g3,g4,g5⟩:=hy;have hn:∀n∈xs++ys++[(⟨c,0,ByteArray.empty⟩:Nd)],n.name.size<=8:=by
  intro n hn;simp only[List.mem_append,List.mem_singleton]at hn;rcases hn with(hn|hn)|hn
  ·exact h5 n hn
  ·exact g5 n hn
  ·subst hn;simp
 rcases hc with rfl|rfl
 ·refine⟨.seq t u,λr st=>?_,⟨h2,g2⟩,by simp;omega,by simp[Tr.count];omega,hn⟩;rw[List.append_assoc,List.append_assoc,h1,g1];simp[bZ]
 ·refine⟨.par t u,λr st=>?_,⟨h2,g2⟩,by simp;omega,by simp[Tr.count];omega,hn⟩;rw[List.append_assoc,List.append_assoc,h1,g1];simp[bZ]
theorem Dn.lay {k:Nat} {ns:List Nd} (f b:Int) (hf:f<=12) (hb:b<=12) (h:Dn k ns):Dn (k+4) (jS f ns b):=by
 have h1:Dn (k+2) (BQ f ns):=by
  unfold BQ;split
  ·exact(Dn.bin 16 (.inr rfl) (Dn.leaf (n:=⟨1,f,ByteArray.empty⟩) (.inr ⟨by simp,by simp,by simp;omega,by simp;omega⟩)) h).mono (by omega)
  ·exact h.mono (by omega)
 unfold jS uT;split
 ·exact(Dn.bin 16 (.inr rfl) h1 (Dn.leaf (n:=⟨1,b,ByteArray.empty⟩) (.inr ⟨by simp,by simp,by simp;omega,by simp;omega⟩))).mono (by omega)
 ·exact h1.mono (by omega)
theorem Dn.one {k:Nat} {ns:List Nd} (h:Dn k ns):∃t,bZ ns []=some [t]/\t.Ok/\ns.length<=k/\t.count<=k:=by
 obtain⟨t,h1,h2,h3,h4,_⟩:=h;exact⟨t,by have:=h1 [] [];simpa[bZ]using this,h2,h3,h4⟩
theorem Dn.ok {k:Nat} {ns:List Nd} (h:Dn k ns) (hk:k<=1048576):kL ns:=by
 obtain⟨t,h1,h2,h3,h4,h5⟩:=h;exact⟨λn hn=>by have:=h5 n hn;omega,by omega⟩
def rF (bc:Nat) (w:World) (v:Value) (ns:List Nd):Prop:=aZ w v ns/\∀k,v.ownBlock=some k->bc<k
theorem au.tm {bc:Nat} {w:World} {B:Nat} {v:Value} {ns:List Nd} (h:au w B v ns) (hB:bc<B):rF bc w v ns :=
 ⟨h.at,λk hk=>by have:=(World.ownsRow.lt h k hk).1;omega⟩
theorem rF.exc {bc:Nat} {w w':World} {T:Nat->Prop} {v:Value} {ns:List Nd} (h:rF bc w v ns) (hE:ah T w w') (hT:∀k,v.ownBlock=some k->¬T k):rF bc w' v ns:=by
 obtain⟨⟨a,c,rfl,h1,h2⟩,h3⟩:=h;refine⟨⟨a,c,rfl,h1,λi hi=>?_⟩,h3⟩;obtain⟨b,o,rfl,h4,c0,c1,c2⟩:=h2 i hi;have hz:=cell_lt c0;have hn:=hT b rfl;exact⟨b,o,rfl,h4,(hE.cell.1 _ _ hz hn).trans c0,(hE.cell.1 _ _ hz hn).trans c1,(hE.cell.1 _ _ hz hn).trans c2⟩
theorem rF.cur {bc:Nat} {w w':World} {v:Value} {ns:List Nd} (h:rF bc w v ns) (hE:ah (λk=>k=bc) w w'):rF bc w' v ns :=
 h.exc hE λk hk e=>by have:=h.2 k hk;have:k=bc:=e;omega
theorem rF.keep {bc:Nat} {w w':World} {v:Value} {ns:List Nd} (h:rF bc w v ns) (hb:Below w.heap.size w w'):rF bc w' v ns:=⟨h.1.keep hb,h.2⟩
def YU (bc m:Nat) (xs ys:List Nd) (vb:Value) (w:World) (e:Ending) (w':World):Prop :=
 ∃v' zs,e=.returned (.agg #[v'])/\((v'=vb/\zs=ys)\/(zs=xs++ys++[⟨15,0,ByteArray.empty⟩]/\au w' w.heap.size v' zs))/\rF bc w' v' zs/\aW bc (m+2) w'/\ah (λk=>k=bc) w w'
theorem YV (bc m:Nat) (va vb:Value) (xs ys:List Nd) (w:World) (h:aW bc m w) (hm:m+2<=1099511627776) (ha:rF bc w va xs) (hb:rF bc w vb ys) (hn:xs.length<=10000) (hl:ys.length<=10000) :
  Calls Tryz.prog 135 #[.pointer (some ⟨bc,0,none⟩),.agg #[va],.agg #[vb]] w (YU bc m xs ys vb w):=by
 have hbz:=h.lt;obtain⟨aa,ca,rfl⟩:=ha.1.slice;obtain⟨ab,cb,rfl⟩:=hb.1.slice;have hB3:Below w.heap.size w (((w.alloc (.cells #[.slice aa xs.length ca] 27)).alloc (.cells #[.slice ab ys.length cb] 27)).alloc (.cells #[.slice none 0 0] 27)):=(((Below.refl _ _).alloc (Nat.le_refl _) _).alloc (by simp) _).alloc (by simp;omega) _;obtain⟨W,hW⟩:∃W,W=(((w.alloc (.cells #[.slice aa xs.length ca] 27)).alloc (.cells #[.slice ab ys.length cb] 27)).alloc (.cells #[.slice none 0 0] 27)):=⟨_,rfl⟩
 have cells:∀w2,ah (λk=>k=bc) W w2->w2.cell? ⟨w.heap.size,0,none⟩=some (.slice aa xs.length ca)/\w2.cell? ⟨w.heap.size+1,0,none⟩=some (.slice ab ys.length cb)/\w2.cell? ⟨w.heap.size+1+1,0,none⟩=some (.slice none 0 0)/\w2.frozen? ⟨w.heap.size+1+1,0,none⟩=false/\w.heap.size+1+1+1<=w2.heap.size:=by
  intro w2 hx;have hs:=hx.size;rw[hW]at hx hs;simp only[World.size_alloc]at hs;have hne:∀j,¬w.heap.size+j=bc:=λj=>by omega
  refine⟨(hx.cell.1 _ _ (by simp;omega) (hne 0)).trans (by simp[go_sem]),(hx.cell.1 _ _ (by simp) (hne 1)).trans (by simp[go_sem]),(hx.cell.1 _ _ (by simp) (hne 2)).trans (by simp[go_sem]),(hx.cell.2 _ _ (by simp) (hne 2)).trans (by simp[go_sem]),hs⟩
 have hBW:Below w.heap.size w W:=by rw[hW];exact hB3
 have hWs:W.heap.size=w.heap.size+1+1+1:=by rw[hW];simp
 have hCW:aW bc m W:=h.keep hBW;have YW:=ha.keep hBW;have hbW:=hb.keep hBW;have HWE:=Lib.hid hW;obtain⟨zs,hzs⟩:∃zs,zs=xs++ys++[(⟨15,0,ByteArray.empty⟩:Nd)]:=⟨_,rfl⟩
 have hfin:∀(w5:World) (m5:Nat) (v:Value) (us:List Nd),m5<=m+2->aW bc m5 w5->ah (λk=>k=bc) W w5->((v=.slice ab ys.length cb/\us=ys)\/(us=xs++ys++[⟨15,0,ByteArray.empty⟩]/\au w5 (w.heap.size+3) v us))->YU bc m xs ys (.slice ab ys.length cb) w (.returned (.agg #[v])) (w5.setCell ⟨w.heap.size+1+1,0,none⟩ v):=by
  intro w5 m5 v us hm5 hc5 qL hor;have hs5:=qL.size;have Ac:ah (λk=>k=bc) w w5:=((ah.refl (λk=>k=bc) w).below hBW).trans qL;have FC:ah (λk=>k=bc) w (w5.setCell ⟨w.heap.size+1+1,0,none⟩ v):=aB Ac (.inl (by show w.heap.size<=w.heap.size+1+1;omega)) _;have hS:ah (λk=>k=w.heap.size+1+1) w5 (w5.setCell ⟨w.heap.size+1+1,0,none⟩ v):=aB (a:=⟨w.heap.size+1+1,0,none⟩) (ah.refl (λk=>k=w.heap.size+1+1) _) (.inr rfl) _;have hor2:(v=.slice ab ys.length cb/\us=ys)\/(us=xs++ys++[⟨15,0,ByteArray.empty⟩]/\au (w5.setCell ⟨w.heap.size+1+1,0,none⟩ v) (w.heap.size+3) v us):=by
   rcases hor with h1|⟨h1,h2⟩
   ·exact .inl h1
   ·exact .inr ⟨h1,h2.bY (by show w.heap.size+1+1<_;omega) _⟩
  refine⟨v,us,rfl,?_,?_,(hc5.mono hm5).exc (T:=λk=>k=w.heap.size+1+1) hS (λk hk=>by omega),FC⟩
  ·rcases hor2 with h1|⟨h1,h2⟩
   ·exact .inl h1
   ·exact .inr ⟨h1,au.mono (by omega) h2⟩
  ·rcases hor2 with⟨rfl,rfl⟩|⟨h1,h2⟩
   ·exact hb.cur FC
   ·exact h2.tm (by omega)
 have HZ:=Lib.hid hzs;clear hzs;go_enter Tryz.func135,Tryz.ntmps135;go_wp2_with (first
  |(go_at_call 183;rw[<-HWE.out];refine(aeJ _ xs W YW.1).mono ?_;rintro e w2⟨d,rfl,hb2⟩;have hE2:ah (λk=>k=bc) W w2:=(ah.refl _ _).below hb2;obtain⟨c2a,c2b,c2c,c2f,c2s⟩:=cells w2 hE2)
  |(go_at_call 39;refine(one_any bc m 5 _ (hCW.keep hb2) hm (by omega)).mono ?_;rintro e w3⟨x,rfl,hc3,hx3⟩;have zK:=hE2.trans hx3;obtain⟨c3a,c3b,c3c,c3f,c3s⟩:=cells w3 zK)
  |(go_at_call 76;refine(Q5 _ _ xs ys _ (YW.cur (by first|exact zK|exact hE2)).1 (hbW.cur (by first|exact zK|exact hE2)).1 (by omega) (by omega)).mono ?_;rintro e w4⟨v4,rfl,bF,hb4⟩;rw[<-HZ.out]at bF;obtain⟨a4,c4,rfl⟩:=bF.slice;obtain⟨c4a,c4b,c4c,c4f,c4s⟩:=cells w4 ((by first|exact zK|exact hE2:ah (λk=>k=bc) W _).below hb4)))
 all_goals
  first
   |(have i_:(w4.setCell ⟨w.heap.size+1+1,0,none⟩ (.slice a4 zs.length c4)).cell? ⟨w.heap.size+1+1,0,none⟩=some (.slice a4 zs.length c4):=(by go_simp);refine bodyPost_ret (v:=.agg #[.slice a4 zs.length c4]) (by simp[results,Tryz.results135,go_sem,i_]) rfl ?_;(first|exact hfin w4 (m+2) _ zs (by omega) (hc3.keep hb4) (zK.below hb4) (.inr ⟨HZ.out,au.mono (by omega) bF⟩)|exact hfin w4 m _ zs (by omega) ((hCW.keep hb2).keep hb4) (hE2.below hb4) (.inr ⟨HZ.out,au.mono (by omega) bF⟩)))
   |(have i_:(w3.setCell ⟨w.heap.size+1+1,0,none⟩ (.slice ab ys.length cb)).cell? ⟨w.heap.size+1+1,0,none⟩=some (.slice ab ys.length cb):=(by go_simp);refine bodyPost_ret (v:=.agg #[.slice ab ys.length cb]) (by simp[results,Tryz.results135,go_sem,i_]) rfl ?_;exact hfin w3 (m+2) _ ys (by omega) hc3 zK (.inl ⟨rfl,rfl⟩))
structure jv (bc m k:Nat) (w:World) (b13:Nat) (wr:World) (v:Value) (ns:List Nd):Prop where
 r0:wr.cell? ⟨w.heap.size,0,none⟩=some (.slice none 0 0)
 rf:wr.frozen? ⟨w.heap.size,0,none⟩=false
 lt:w.heap.size<b13
 t0:wr.cell? ⟨b13,0,none⟩=some v
 tf:wr.frozen? ⟨b13,0,none⟩=false
 own:au wr (w.heap.size+1) v ns
 ne:∀k,v.ownBlock=some k->k≠b13
 dn:Dn k ns
 cur:aW bc m wr
 ex:ah (λk=>k=bc) w wr
theorem jv.cur' {bc m m' k:Nat} {w:World} {b13:Nat} {wr w2:World} {v:Value} {ns:List Nd} (h:jv bc m k w b13 wr v ns) (hE:ah (λk=>k=bc) wr w2) (hb:bc<w.heap.size) (hc:aW bc m' w2):jv bc m' k w b13 w2 v ns:=by
 have h13:=cell_lt h.t0;have h0:=cell_lt h.r0;have hlt:=h.lt;have hn:¬w.heap.size=bc:=by omega
 have hn2:¬b13=bc:=by omega
 exact⟨(hE.cell.1 _ _ h0 hn).trans h.r0,(hE.cell.2 _ _ h0 hn).trans h.rf,h.lt,(hE.cell.1 _ _ h13 hn2).trans h.t0,(hE.cell.2 _ _ h13 hn2).trans h.tf,gV hE h.own (λk hk e=>by have:=(World.ownsRow.lt h.own k hk).1;have:k=bc:=e;omega),h.ne,h.dn,hc,h.ex.trans hE⟩
theorem jv.keep {bc m k:Nat} {w:World} {b13:Nat} {wr w2:World} {v:Value} {ns:List Nd} (h:jv bc m k w b13 wr v ns) (hb:Below wr.heap.size wr w2) (hbc:bc<w.heap.size):jv bc m k w b13 w2 v ns :=
 h.cur' ((ah.refl _ _).below hb) hbc (h.cur.keep hb)
theorem jv.set {bc m k k':Nat} {w:World} {b13:Nat} {wr:World} {v v':Value} {ns ns':List Nd} (h:jv bc m k w b13 wr v ns) (hbc:bc<w.heap.size) (ho:au wr (w.heap.size+1) v' ns') (hne:∀k,v'.ownBlock=some k->k≠b13) (hd:Dn k' ns'):jv bc m k' w b13 (wr.setCell ⟨b13,0,none⟩ v') v' ns':=by
 have h13:=cell_lt h.t0;have h0:=cell_lt h.r0;have hlt:=h.lt;have r0:=h.r0;have rf:=h.rf;have t0:=h.t0;have tf:=h.tf;have hn:¬w.heap.size=b13:=by omega
 have hS:ah (λk=>k=b13) wr (wr.setCell ⟨b13,0,none⟩ v'):=aB (a:=⟨b13,0,none⟩) (ah.refl (λk=>k=b13) _) (.inr rfl) _;exact⟨by go_simp,by go_simp,h.lt,by go_simp,by go_simp,gV hS ho (λk hk=>hne k hk),hne,hd,h.cur.exc (T:=λk=>k=b13) hS (λk hk=>by omega),aB h.ex (.inl (by show w.heap.size<=b13;omega)) _⟩
theorem aeN {bc m:Nat} {w w2:World} {i:Int} {a2:Option Addr} {c2:Nat} (hbz:bc<w.heap.size) (h:aW bc m w) (hi0:0<=i) (hi:i<=12)
  (ho:au w2 (w.alloc (.cells #[.slice none 0 0] 27)).heap.size (.slice a2 [(⟨1,i,ByteArray.empty⟩:Nd)].length c2) [⟨1,i,ByteArray.empty⟩]) (hb:Below (w.alloc (.cells #[.slice none 0 0] 27)).heap.size (w.alloc (.cells #[.slice none 0 0] 27)) w2) :
  jv bc m 1 w w2.heap.size (w2.alloc (.cells #[.slice a2 1 c2] 27)) (.slice a2 1 c2) [⟨1,i,ByteArray.empty⟩]:=by
 have hs:=hb.size;simp only[World.size_alloc]at hs ho;have hz:w.heap.size<w2.heap.size:=by omega
 have q0:=hb.cell (p:=⟨w.heap.size,0,none⟩) (by simp);have qf:=hb.frozen (p:=⟨w.heap.size,0,none⟩) (by simp);simp[go_sem]at q0 qf;have hB:Below w.heap.size w (w2.alloc (.cells #[.slice a2 1 c2] 27)):=((aj w _).trans (hb.mono (by simp))).alloc (by omega) _;refine⟨by go_simp,by go_simp,hz,by go_simp,by go_simp,au.keep (aj _ _) ho,λk hk e=>?_,Dn.leaf (.inr ⟨by simp,by simp,by simp;omega,by simp;omega⟩),h.keep hB,(ah.refl _ _).below hB⟩;have:=(World.ownsRow.lt ho k hk).2;omega
theorem jv.mono {bc m m' k k':Nat} {w:World} {b13:Nat} {wr:World} {v:Value} {ns:List Nd} (h:jv bc m k w b13 wr v ns) (hm:m<=m') (hk:k<=k'):jv bc m' k' w b13 wr v ns :=
 ⟨h.r0,h.rf,h.lt,h.t0,h.tf,h.own,h.ne,h.dn.mono hk,h.cur.mono hm,h.ex⟩
theorem aeO {bc B:Nat} {w4 w6:World} {lb lc:Nat} {n:Nd} (hbc:bc<w4.heap.size) (EF:au w4 B (.slice (some ⟨lb,0,none⟩) 1 lc) [n]) (hB:bc<B) (hE:ah (λk=>k=bc) (w4.alloc (.cells #[.slice (some ⟨lb,0,none⟩) 1 lc] 27)) w6) :
  w6.cell? ⟨w4.heap.size,0,none⟩=some (.slice (some ⟨lb,0,none⟩) 1 lc)/\au w6 B (.slice (some ⟨lb,0,none⟩) 1 lc) [n]/\w4.heap.size<w6.heap.size:=by
 have hs:=hE.size;simp only[World.size_alloc]at hs;have hne:¬w4.heap.size=bc:=by omega
 refine⟨(hE.cell.1 _ _ (by simp) hne).trans (by simp[go_sem]),gV hE (au.keep (aj _ _) EF) (λk hk e=>?_),by omega⟩;have:=(World.ownsRow.lt EF k hk).1;have:k=bc:=e;omega
theorem aeP (f b:Int) (ns:List Nd):jS f ns b=ns\/ns.length<(jS f ns b).length:=by
 unfold jS uT BQ;split<;>split<;>simp;all_goals omega
theorem Rl {B:Nat} {w7 w8:World} {v v8:Value} {ns:List Nd} {f b:Int} (h:au w7 B v ns) (hb:Below w7.heap.size w7 w8) (hB:B<=w7.heap.size) (hn:aZ w8 v8 (jS f ns b)) (ho:v8=v\/au w8 w7.heap.size v8 (jS f ns b)) :
  au w8 B v8 (jS f ns b):=by
 rcases ho with rfl|ho
 ·rcases aeP f b ns with e|e
  ·rw[e];exact au.keep hb h
  ·obtain⟨a,c,e1⟩:=h.slice;obtain⟨a',c',e2⟩:=hn.slice;rw[e1]at e2;simp at e2;omega
 ·exact au.mono hB ho
theorem BU {w:World} {B:Nat} {v:Value} {n:Nd} (h:au w B v [n]):∃b c,v=.slice (some ⟨b,0,none⟩) 1 c/\B<=b/\b<w.heap.size/\1<=c/\w.cell? ⟨b,0,none⟩=some (.int .i64 n.kind)/\w.cell? ⟨b,0+1,none⟩=some (.int .i64 n.value)/\w.cell? ⟨b,0+2,none⟩=some (.string n.name):=by
 obtain⟨a,c,rfl,hc,hat⟩:=h.at
 obtain⟨b,o,rfl,_,c0,c1,c2⟩:=hat 0 (by simp);have hl:=World.ownsRow.lt h b rfl;have ho:o=0:=by
  rcases h.2 with⟨h',_⟩|⟨g',cap',cur,h',_⟩
  ·simp at h'
  ·simp at h';exact h'.1.2
 subst ho;exact⟨b,c,rfl,hl.1,hl.2,hc,c0,c1,c2⟩
theorem aeQ (k:Int):0<=(gZ k).1/\(gZ k).1<=2/\0<=(gZ k).2/\(gZ k).2<=2:=by
 unfold gZ;repeat' split
 all_goals simp
theorem Lm (k x:Int) (w:World) (h2:2<=k) :
  Calls Tryz.prog 134 #[.agg #[.int .i64 k,.int .i64 x,.string ByteArray.empty]] w λe w'=>∃A B:Int,e=.returned (.tuple #[.int .i64 A,.int .i64 B])/\0<=A/\A<=2/\0<=B/\B<=2/\Hid ((A,B)=gZ k)/\Below w.heap.size w w':=by
 refine(DR ⟨k,x,ByteArray.empty⟩ w).mono ?_;rintro e w'⟨rfl,hb⟩;obtain⟨k1,k2,k3,k4⟩:=aeQ k;have he:fH ⟨k,x,ByteArray.empty⟩=gZ k:=by unfold fH;rw[if_neg (by simp;omega)]
 rw[he];exact⟨_,_,rfl,k1,k2,k3,k4,Lib.hid rfl,hb⟩
theorem YX {bc m k B:Nat} {w:World} {b13:Nat} {w9 w10:World} {v vb v10:Value} {ns ys zs:List Nd} (hbz:bc<w.heap.size) (st:jv bc m k w b13 w9 v ns) (own:au w9 B vb ys) (dn:Dn 5 ys) (hB:b13<B/\w.heap.size<B)
  (hor:(v10=vb/\zs=ys)\/(zs=ns++ys++[⟨15,0,ByteArray.empty⟩]/\au w10 w9.heap.size v10 zs)) (hc:aW bc (m+2) w10) (hx:ah (λk=>k=bc) w9 w10) :
  jv bc (m+2) k w b13 w10 v ns/\au w10 (w.heap.size+1) v10 zs/\(∀k,v10.ownBlock=some k->k≠b13)/\Dn (k+6) zs:=by
 have h13:=cell_lt st.t0;have h0:=cell_lt st.r0;refine⟨st.cur' hx hbz hc,?_⟩;rcases hor with⟨rfl,rfl⟩|⟨rfl,ho⟩
 ·refine⟨au.mono (by omega) (gV hx own λj hj e=>?_),λj hj=>?_,dn.mono (by omega)⟩
  ·have:=(World.ownsRow.lt own j hj).1;have:j=bc:=e;omega
  ·have:=(World.ownsRow.lt own j hj).1;omega
 ·refine⟨au.mono (by omega) ho,λj hj=>?_,(Dn.bin 15 (.inl rfl) st.dn dn).mono (by omega)⟩;have:=(World.ownsRow.lt ho j hj).1;omega
def LyP (bc m:Nat) (w:World) (e:Ending) (w':World):Prop:=∃v' ns,e=.returned (.agg #[v'])/\Dn 100 ns/\au w' (w.heap.size+1) v' ns/\aW bc m w'/\ah (λk=>k=bc) w w'
def jT (bc m k:Nat) (w:World) (b13 tb:Nat) (wc:World) (v:Value) (ns:List Nd) (lk:Int) (lb lc:Nat):Prop :=
 jv bc m k w b13 wc v ns/\b13<tb/\wc.cell? ⟨tb,0,none⟩=some (.slice (some ⟨lb,0,none⟩) 1 lc)/\wc.frozen? ⟨tb,0,none⟩=false /\
  ∃B,au wc B (.slice (some ⟨lb,0,none⟩) 1 lc) [⟨lk,0,ByteArray.empty⟩]/\b13<B/\lb≠tb
theorem jT.cur' {bc m m' k b13 tb lb lc:Nat} {w wc w2:World} {v:Value} {ns:List Nd} {lk:Int} (h:jT bc m k w b13 tb wc v ns lk lb lc) (hE:ah (λk=>k=bc) wc w2) (hbz:bc<w.heap.size) (hc:aW bc m' w2):jT bc m' k w b13 tb w2 v ns lk lb lc:=by
 obtain⟨st,htb,c0,cf,B,ho,hB,hne⟩:=h;have hl:=st.lt;have hn:¬tb=bc:=by omega
 refine⟨st.cur' hE hbz hc,htb,(hE.cell.1 _ _ (cell_lt c0) hn).trans c0,(hE.cell.2 _ _ (cell_lt c0) hn).trans cf,B,gV hE ho (λj hj e=>?_),hB,hne⟩;have:=(World.ownsRow.lt ho j hj).1;have:j=bc:=e;omega
theorem jT.keep {bc m k b13 tb lb lc:Nat} {w wc w2:World} {v:Value} {ns:List Nd} {lk:Int} (h:jT bc m k w b13 tb wc v ns lk lb lc) (hb:Below wc.heap.size wc w2) (hbz:bc<w.heap.size):jT bc m k w b13 tb w2 v ns lk lb lc :=
 h.cur' ((ah.refl _ _).below hb) hbz (h.1.cur.keep hb)
theorem aeR {bc m k b13 B lb lc:Nat} {w wc:World} {v:Value} {ns:List Nd} {lk:Int} (h:jv bc m k w b13 wc v ns) (hbz:bc<w.heap.size) (ho:au wc B (.slice (some ⟨lb,0,none⟩) 1 lc) [⟨lk,0,ByteArray.empty⟩]) (hB:b13<B) :
  jT bc m k w b13 wc.heap.size (wc.alloc (.cells #[.slice (some ⟨lb,0,none⟩) 1 lc] 27)) v ns lk lb lc:=by
 have h13:=cell_lt h.t0;have hl:=(World.ownsRow.lt ho lb rfl).2;exact⟨h.keep (aj _ _) hbz,h13,by simp[go_sem],by simp[go_sem],B,au.keep (aj _ _) ho,hB,by omega⟩
theorem jv.other {bc m k b13 tb:Nat} {w wc:World} {v u:Value} {ns:List Nd} (h:jv bc m k w b13 wc v ns) (hbz:bc<w.heap.size) (ht:b13<tb) (hv:∀j,v.ownBlock=some j->j≠tb):jv bc m k w b13 (wc.setCell ⟨tb,0,none⟩ u) v ns:=by
 have hS:ah (λk=>k=tb) wc (wc.setCell ⟨tb,0,none⟩ u):=aB (a:=⟨tb,0,none⟩) (ah.refl (λk=>k=tb) _) (.inr rfl) _;have h13:=cell_lt h.t0;have h0:=cell_lt h.r0;have hl:=h.lt;have n1:¬w.heap.size=tb:=by omega
 have n2:¬b13=tb:=by omega
 exact⟨(hS.cell.1 _ _ h0 n1).trans h.r0,(hS.cell.2 _ _ h0 n1).trans h.rf,h.lt,(hS.cell.1 _ _ h13 n2).trans h.t0,(hS.cell.2 _ _ h13 n2).trans h.tf,gV hS h.own (λj hj e=>hv j hj e),h.ne,h.dn,h.cur.exc (T:=λk=>k=tb) hS (λk hk=>by omega),aB h.ex (.inl (by show w.heap.size<=tb;omega)) _⟩
theorem Lr {bc m k b13 tb B lb lc lb' EG:Nat} {w wc:World} {v:Value} {ns:List Nd} {lk YZ:Int} (h:jT bc m k w b13 tb wc v ns lk lb lc) (hbz:bc<w.heap.size) (ho:au wc B (.slice (some ⟨lb',0,none⟩) 1 EG) [⟨YZ,0,ByteArray.empty⟩]) (hB:b13<B) (hne:lb'≠tb) (hv:∀j,v.ownBlock=some j->j≠tb) :
  jT bc m k w b13 tb (wc.setCell ⟨tb,0,none⟩ (.slice (some ⟨lb',0,none⟩) 1 EG)) v ns YZ lb' EG:=by
 obtain⟨st,htb,c0,cf,_⟩:=h;have hS:ah (λk=>k=tb) wc (wc.setCell ⟨tb,0,none⟩ (.slice (some ⟨lb',0,none⟩) 1 EG)):=aB (a:=⟨tb,0,none⟩) (ah.refl (λk=>k=tb) _) (.inr rfl) _;refine⟨st.other hbz htb hv,htb,by go_simp,by go_simp,B,gV hS ho (λj hj e=>?_),hB,hne⟩;have:lb'=j:=by simpa[Value.ownBlock]using hj
 have:j=tb:=e;omega
theorem aeS {bc m k b13 tb lb lc:Nat} {w wc:World} {v:Value} {ns:List Nd} {lk:Int} (h:jT bc m k w b13 tb wc v ns lk lb lc) :
  wc.cell? ⟨lb,0,none⟩=some (.int .i64 lk)/\wc.cell? ⟨lb,0+1,none⟩=some (.int .i64 0)/\wc.cell? ⟨lb,0+2,none⟩=some (.string ByteArray.empty)/\1<=lc/\lb<wc.heap.size:=by
 obtain⟨st,htb,c0,cf,B,ho,hB,hne⟩:=h;obtain⟨b,c,e,e1,e2,e3,n0,n1,n2⟩:=BU ho;simp at e;obtain⟨rfl,rfl⟩:=e;exact⟨n0,n1,n2,e3,e2⟩
def Rn (W o k:Int):Prop:=(W<o->gZ k=(1,2)\/gZ k=(0,1))/\(o<W->gZ k=(1,0)\/gZ k=(2,1))
theorem Y2 (w:World) (a b c d:Int):Ri (w.alloc (.cells #[.int .i64 a,.int .i64 b,.int .i64 c,.int .i64 d] 3)) (.slice (some ⟨w.heap.size,0,none⟩) 4 4) [a,b,c,d]:=by
 refine⟨some ⟨w.heap.size,0,none⟩,4,rfl,by simp,λi hi=>⟨_,0,rfl,hi,?_⟩⟩;simp only[List.length_cons,List.length_nil]at hi;match i,hi with
 | 0,_=>simp[go_sem]
 | 1,_=>simp[go_sem]
 | 2,_=>simp[go_sem]
 | 3,_=>simp[go_sem]
end Go.Proofs.YtikgblkfmpecfaaGreatDoor
