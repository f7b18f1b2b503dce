/-
  The draws' cursor: next, pick, one. Own work.
-/
import Derived.Test.YtikgblkfmpecfaaGreatDoorKC
import Derived.BigQuiet
import Derived.Deep.QuietTactic
import Derived.WalkSmall
import Derived.Lib.VarintBits
import Derived.Test.YtikgblkfmpecfaaGreatDoorKF
import Derived.Test.YtikgblkfmpecfaaGreatDoorKG
import Derived.Test.YtikgblkfmpecfaaGreatDoorKE
import Derived.Laws.OwnMore
import Derived.Test.YtikgblkfmpecfaaGreatDoorKT
import Derived.Test.YtikgblkfmpecfaaGreatDoorKA
set_option linter.all false
set_option maxRecDepth 100000
set_option maxHeartbeats 8000000
namespace Go.Proofs.YtikgblkfmpecfaaGreatDoor
open Go.RowKit
def BytesAt (w:World) (v:Value) (bs:List UInt8):Prop:=SlAt 1 v bs.length fun i b o=>∃ h:i<bs.length,w.cell? ⟨b,o,none⟩=some (.int .u8 (bs[i].toNat:Int))
structure CurV (bc m:Nat) (w:World) (va:Value) (code:List UInt8) (pos:Nat) (sd:Int):Prop where
 c0:w.cell? ⟨bc,0,none⟩=some va
 c1:w.cell? ⟨bc,1,none⟩=some (.int .i64 (pos:Int))
 c2:w.cell? ⟨bc,2,none⟩=some (.int .u64 sd)
 fz:∀ j,w.frozen? ⟨bc,j,none⟩=false
 by_:BytesAt w va code
 low':∀ b o sp n c,va=.slice (some ⟨b,o,sp⟩) n c → b<bc
 pm:pos≤m
 cl:code.length≤1048576
def Cur (bc m:Nat) (w:World):Prop:=∃ va code pos sd,CurV bc m w va code pos sd
theorem BytesAt.keep {w w':World} {v:Value} {bs:List UInt8} (h:BytesAt w v bs) (hk:∀ b o,v.ownBlock=some b → w'.cell? ⟨b,o,none⟩=w.cell? ⟨b,o,none⟩):BytesAt w' v bs:=by
 obtain ⟨a,cap,rfl,hc,hat⟩:=h
 refine ⟨a,cap,rfl,hc,fun i hi=>?_⟩
 obtain ⟨b,o,rfl,hi',hx⟩:=hat i hi
 exact ⟨b,o,rfl,hi',(hk b _ rfl).trans hx⟩
theorem BytesAt.shape {w:World} {v:Value} {bs:List UInt8} (h:BytesAt w v bs):∃ a c,v=.slice a bs.length c:=by obtain ⟨a,cap,rfl,_⟩:=h;exact ⟨a,cap,rfl⟩
theorem Cur.lt {bc m:Nat} {w:World} (h:Cur bc m w):bc<w.heap.size:=by obtain ⟨_,_,_,_,h⟩:=h;exact cell_lt h.c0
theorem Cur.mono {bc m m':Nat} {w:World} (h:Cur bc m w) (hm:m≤m'):Cur bc m' w:=by
 obtain ⟨va,code,pos,sd,h⟩:=h
 exact ⟨va,code,pos,sd,h.c0,h.c1,h.c2,h.fz,h.by_,h.low',Nat.le_trans h.pm hm,h.cl⟩
theorem Cur.exc {bc m:Nat} {w w':World} {T:Nat → Prop} (h:Cur bc m w) (hE:Exc T w w') (hT:∀ k,T k → bc<k):Cur bc m w':=by
 have hb:=h.lt
 obtain ⟨va,code,pos,sd,h⟩:=h
 have hn:∀ k,k≤bc → ¬ T k:=fun k hk ht=>by have:=hT k ht;omega
 refine ⟨va,code,pos,sd,(hE.cell.1 _ _ hb (hn _ (Nat.le_refl _))).trans h.c0,(hE.cell.1 _ _ hb (hn _ (Nat.le_refl _))).trans h.c1,(hE.cell.1 _ _ hb (hn _ (Nat.le_refl _))).trans h.c2,fun j=>(hE.cell.2 _ _ hb (hn _ (Nat.le_refl _))).trans (h.fz j),h.by_.keep fun b o e=>?_,h.low',h.pm,h.cl⟩
 obtain ⟨a,c,rfl⟩:=h.by_.shape
 match a,e with
 | some ⟨b',o',sp⟩,e =>
  have e':b'=b:=by simpa [Value.ownBlock] using e
  subst e'
  have hlo:=h.low' b' o' sp _ _ rfl
  exact hE.cell.1 _ _ (by omega) (hn _ (by omega))
theorem Cur.keep {bc m:Nat} {w w':World} (h:Cur bc m w) (hb:Below w.heap.size w w'):Cur bc m w':=by
 have hl:=h.lt
 exact h.exc (T:=fun k=>w.heap.size≤k) ⟨hb.os,hb.tape,hb.output,hb.size,fun k hk _=>hb.block k hk⟩ (fun k hk=>by omega)
theorem cur_moved {bc m:Nat} {w:World} {va:Value} {code:List UInt8} {pos:Nat} {sd:Int} (h:CurV bc m w va code pos sd) (p q:Nat) (s':Int) :
  Cur bc (m+1) ((((w.drewN p).setCell ⟨bc,1,none⟩ (.int .i64 ((pos:Int)+1))).setCell ⟨bc,2,none⟩ (.int .u64 s')).drewN q) ∧
   Exc (fun k=>k=bc) w ((((w.drewN p).setCell ⟨bc,1,none⟩ (.int .i64 ((pos:Int)+1))).setCell ⟨bc,2,none⟩ (.int .u64 s')).drewN q):=by
 have hE:Exc (fun k=>k=bc) w ((((w.drewN p).setCell ⟨bc,1,none⟩ (.int .i64 ((pos:Int)+1))).setCell ⟨bc,2,none⟩ (.int .u64 s')).drewN q) :=
  (exc_set (T:=fun k=>k=bc) (exc_set (T:=fun k=>k=bc) ((Exc.refl (fun k=>k=bc) w).below (below_drewN (Below.refl _ _) p)) (.inr rfl) (a:=⟨bc,1,none⟩) _) (.inr rfl) (a:=⟨bc,2,none⟩) _).below (below_drewN (Below.refl _ _) q)
 refine ⟨?_,hE⟩
 have c0:=h.c0
 have c1:=h.c1
 have c2:=h.c2
 have fz:=h.fz
 refine ⟨va,code,pos+1,s',by go_simp,by go_simp,by go_simp,fun j=>by go_simp,h.by_.keep fun b o e=>?_,h.low',by have:=h.pm;omega,h.cl⟩
 obtain ⟨a,c,rfl⟩:=h.by_.shape
 match a,e with
 | some ⟨b',o',sp⟩,e =>
  have e':b'=b:=by simpa [Value.ownBlock] using e
  subst e'
  have hlo:=h.low' b' o' sp _ _ rfl
  have hbz:=cell_lt c0
  exact hE.cell.1 _ _ (by omega) (by omega)
theorem seed_bits (z:Int):0≤wrap64 (bits BinOp.and IntKind.u64 (IntKind.u64.wrap z / 1099511627776) 255)∧wrap64 (bits BinOp.and IntKind.u64 (IntKind.u64.wrap z / 1099511627776) 255)≤255:=by
 have hw:IntKind.u64.wrap z=z % 18446744073709551616:=by simp [IntKind.wrap,IntKind.bits,IntKind.signed]
 rw [hw]
 have h2:bits BinOp.and IntKind.u64 (z % 18446744073709551616 / 1099511627776) 255=(z % 18446744073709551616 / 1099511627776) % 256:=bits_mask .u64 64 (by decide) wraps_u64 8 (by decide) _ (by omega) (by omega)
 rw [h2,IntWalk.wrap64_in _ (by omega)]
 omega
def NxP (bc m:Nat) (w:World) (e:Ending) (w':World):Prop:=∃ x:Int,e=.returned (.int .i64 x)∧0≤x∧x≤255∧Cur bc (m+1) w'∧Exc (fun k=>k=bc) w w'
theorem nxt_any (bc m:Nat) (w:World) (h:Cur bc m w) (hm:m≤1099511627776) :
  Calls Tryz.prog 78 #[.pointer (some ⟨bc,0,none⟩)] w (NxP bc m w):=by
 have hbz:=h.lt
 obtain ⟨va,code,pos,sd,hv⟩:=h
 obtain ⟨a,c,rfl⟩:=hv.by_.shape
 obtain ⟨c0,c1,c2,fz,hby,low,hpm,hcl⟩:=id hv
 have HV:=Lib.hid hv
 by_cases hlt:pos<code.length
 ·obtain ⟨_,_,e,_,hat⟩:=hby
  simp only [Value.slice.injEq] at e
  obtain ⟨rfl,_,rfl⟩:=e
  obtain ⟨b,o,rfl,_,hx⟩:=hat pos hlt
  have g1:(pos:Int)<(code.length:Int):=by omega
  have g2:(pos:Int)+1≤(code.length:Int):=by omega
  have hbl:=low b o none _ _ rfl
  obtain ⟨cb,hcb⟩:∃ cb,(code[pos].toNat:Int)=cb:=⟨_,rfl⟩
  have hcb2:0≤cb∧cb≤255:=by have:=code[pos].toNat_lt;omega
  rw [hcb] at hx
  have e1:wrap64 cb=cb:=IntWalk.wrap64_in _ (by omega)
  have hxz:=cell_lt hx
  have hne:¬ b=bc:=by omega
  rw [Nat.mul_one] at hx
  clear hv low hat
  go_enter Tryz.func78,Tryz.ntmps78
  go_wp2_with fail
  go_quiet (fail)
  go_wp2_with fail
  go_quiet (fail)
  go_wp2_with fail
  go_quiet (fail)
  go_wp2_with fail
  go_ret
  obtain ⟨r1,r2⟩:=cur_moved HV.out _ _ _
  exact ⟨cb,rfl,hcb2.1,hcb2.2,r1,r2⟩
 ·have g1:¬ (pos:Int)<(code.length:Int):=by omega
  have g2:¬ (pos:Int)+1≤(code.length:Int):=by omega
  clear hv low hby
  go_enter Tryz.func78,Tryz.ntmps78
  go_wp2_with fail
  go_quiet (fail)
  go_wp2_with fail
  go_quiet (fail)
  go_wp2_with fail
  go_ret
  obtain ⟨r1,r2⟩:=cur_moved HV.out _ _ _
  obtain ⟨b1,b2⟩:=seed_bits (IntKind.u64.wrap (IntKind.u64.wrap (sd * 6364136223846793005))+1442695040888963407)
  exact ⟨_,rfl,b1,b2,r1,r2⟩
end Go.Proofs.YtikgblkfmpecfaaGreatDoor
/-
  The draws: pick, one, elem, of, among, and the leaves. Own work.
-/
namespace Go.Proofs.YtikgblkfmpecfaaGreatDoor
open Go.RowKit
def PkP (bc m:Nat) (n:Int) (w:World) (e:Ending) (w':World):Prop:=∃ x:Int,e=.returned (.int .i64 x)∧0≤x∧x<1048576∧(x=0∨x<n)∧Cur bc (m+2) w'∧Exc (fun k=>k=bc) w w'
theorem pick_any (bc m:Nat) (n:Int) (w:World) (h:Cur bc m w) (hm:m+2≤1099511627776) (hn:n≤1048576) :
  Calls Tryz.prog 38 #[.pointer (some ⟨bc,0,none⟩),.int .i64 n] w (PkP bc m n w):=by
 by_cases h1:n≤1
 ·go_enter Tryz.func38,Tryz.ntmps38
  go_wp2
  go_ret
  exact ⟨0,rfl,by omega,by omega,.inl rfl,h.mono (by omega),Exc.refl _ _⟩
 ·have hrem:∀ x:Int,0≤x % n∧x % n<n:=fun x=>⟨Int.emod_nonneg _ (by omega),Int.emod_lt_of_pos _ (by omega)⟩
  have hn0:¬ n=0:=by omega
  by_cases h2:n≤200
  ·have g2:¬ (200<n):=by omega
   go_enter Tryz.func38,Tryz.ntmps38
   go_wp2_with (go_at_call 78;refine (nxt_any bc m _ h (by omega)).mono ?_;rintro e w2 ⟨x,rfl,x0,x1,hc2,hx2⟩)
   go_ret
   obtain ⟨r1,r2⟩:=hrem x
   exact ⟨_,rfl,r1,by omega,.inr r2,hc2.mono (by omega),hx2⟩
  ·have g2:200<n:=by omega
   go_enter Tryz.func38,Tryz.ntmps38
   go_wp2_with (go_at_call 78;first|(refine (nxt_any bc m _ h (by omega)).mono ?_;rintro e w2 ⟨x,rfl,x0,x1,hc2,hx2⟩)|(refine (nxt_any bc (m+1) _ hc2 (by omega)).mono ?_;rintro e w3 ⟨y,rfl,y0,y1,hc3,hx3⟩))
   go_ret
   obtain ⟨r1,r2⟩:=hrem (x * 256+y)
   exact ⟨_,rfl,r1,by omega,.inr r2,hc3,hx2.trans hx3⟩
end Go.Proofs.YtikgblkfmpecfaaGreatDoor
/-
  Drawn terms: one, id, join, layers' leaves. Own work.
-/
namespace Go.Proofs.YtikgblkfmpecfaaGreatDoor
open Go.RowKit
def BoolP (w:World) (e:Ending) (w':World):Prop:=∃ b,e=.returned (.bool b)∧Below w.heap.size w w'
def TmqP (ns:List Nd) (w:World) (e:Ending) (w':World):Prop:=∃ v',e=.returned (.agg #[v'])∧NdsOwn w' w.heap.size v' ns∧Below w.heap.size w w'
theorem tmOne_any (k x:Int) (w:World):Calls Tryz.prog 100 #[.int .i64 k,.int .i64 x] w (TmqP [⟨k,x,ByteArray.empty⟩] w):=by
 go_enter Tryz.func100,Tryz.ntmps100
 go_wp2
 refine bodyPost_ret (v:=.agg #[.slice (some ⟨w.heap.size+1,0,none⟩) 1 1]) (by simp [results,Tryz.results100,go_sem]) rfl ⟨_,rfl,?_,((Below.refl _ _).alloc (Nat.le_refl _) _).alloc (by simp) _⟩
 have:=World.ownsRow_lit (base:=w.heap.size) (size:=3) (e:=87) (w.alloc (.cells #[.slice (some ⟨w.heap.size+1,0,none⟩) 1 1] 27)) #[.int .i64 k,.int .i64 x,.string ByteArray.empty] 1 (by simp) (by unfold maxLen;omega) rfl
 simp only [World.size_alloc] at this
 exact this
theorem tmIsId_any (v:Value) (ns:List Nd) (w:World) (hv:NdsAt w v ns):Calls Tryz.prog 183 #[.agg #[v]] w (BoolP w):=by
 obtain ⟨a,cap,rfl,hc,hat⟩:=hv
 by_cases h1:ns.length=1
 ·obtain ⟨b,o,rfl,_,n0,n1,n2⟩:=hat 0 (by omega)
  simp only [Nat.zero_mul,Nat.add_zero] at n0
  have g1:((ns.length:Int) == 1)=true:=by simp [h1]
  have hz:=cell_lt n0
  go_enter Tryz.func183,Tryz.ntmps183
  go_wp2
  go_ret
  exact ⟨_,rfl,(Below.refl _ _).alloc (Nat.le_refl _) _⟩
 ·have g1:((ns.length:Int) == 1)=false:=by simp;omega
  go_enter Tryz.func183,Tryz.ntmps183
  go_wp2
  go_ret
  exact ⟨_,rfl,(Below.refl _ _).alloc (Nat.le_refl _) _⟩
theorem tmJoin_any (va vb:Value) (xs ys:List Nd) (k:Int) (w:World) (ha:NdsAt w va xs) (hb:NdsAt w vb ys) (hn:xs.length≤100000) (hm:ys.length≤100000) :
  Calls Tryz.prog 136 #[.agg #[va],.agg #[vb],.int .i64 k] w (TmqP (xs ++ ys ++ [⟨k,0,ByteArray.empty⟩]) w):=by
 obtain ⟨aa,ca,rfl⟩:=ha.slice
 obtain ⟨ab,cb,rfl⟩:=hb.slice
 go_enter Tryz.func136,Tryz.ntmps136
 have hB3:Below w.heap.size w (((w.alloc (.cells #[.slice aa xs.length ca] 27)).alloc (.cells #[.slice ab ys.length cb] 27)).alloc (.cells #[.slice none 0 0] 27)):=(((Below.refl _ _).alloc (Nat.le_refl _) _).alloc (by simp) _).alloc (by simp;omega) _
 obtain ⟨W3,hW3⟩:∃ W3,W3=(((w.alloc (.cells #[.slice aa xs.length ca] 27)).alloc (.cells #[.slice ab ys.length cb] 27)).alloc (.cells #[.slice none 0 0] 27)):=⟨_,rfl⟩
 go_wp2_with (first
  | (at_builtin;refine hd_src (ha.keep (hB3.alloc (by simp;omega) _)) (by omega) rfl (.tmp 8) (.tmp 10) rfl (w.heap.size+3) (.slice (some ⟨w.heap.size+3,0,none⟩) 0 0) [] rfl rfl (nds_empty _ _ _ (by simp) (by simp)) (by simp) (by simp) ?_;intro v1 w1 h1 h2 h3;have h1:NdsOwn w1 (w.heap.size+3) v1 xs:=h1;obtain ⟨a1,c1,rfl⟩:=h1.slice;have hg1:Below (w.heap.size+3) (((w.alloc (.cells #[.slice aa xs.length ca] 27)).alloc (.cells #[.slice ab ys.length cb] 27)).alloc (.cells #[.slice none 0 0] 27)) w1:=((Below.refl _ _).alloc (by simp) _).grown h2 (by simp) (fun k hk=>by simp [Value.ownBlock] at hk;omega);have hs1:=hg1.size;simp only [World.size_alloc] at hs1;have q1:=hg1.cell (p:=⟨w.heap.size+1,0,none⟩) (by simp);have q2:=hg1.cell (p:=⟨w.heap.size+2,0,none⟩) (by simp);have q3:=hg1.frozen (p:=⟨w.heap.size+2,0,none⟩) (by simp);simp [go_sem] at q1 q2 q3)
  | (at_builtin;refine hd_src ((hb.keep hB3).keep (hg1.mono (by simp))) (by omega) rfl (.tmp 12) (.tmp 14) rfl (w.heap.size+3) _ _ rfl rfl h1 (by omega) (by omega) ?_;intro v4 w4 h4 h5 h6;obtain ⟨zs,hzs,hzl⟩:∃ zs,zs=xs ++ ys∧zs.length≤200000:=⟨_,rfl,by rw [List.length_append];omega⟩;replace h4:NdsOwn w4 (w.heap.size+3) v4 zs:=hzs ▸ h4;have HZ:=Lib.hid hzs;clear hzs;obtain ⟨a4,c4,rfl⟩:=h4.slice;have hg4:Below (w.heap.size+3) w1 w4:=(Below.refl _ _).grown h5 (by omega) (fun j hj=>(World.ownsRow.lt h1 j hj).1);have hs4:=hg4.size;have p2:=hg4.cell (p:=⟨w.heap.size+2,0,none⟩) (by simp);have p3:=hg4.frozen (p:=⟨w.heap.size+2,0,none⟩) (by simp);rw [q2] at p2;rw [q3] at p3)
  | (at_builtin;refine hd_src (v:=.slice (some ⟨w4.heap.size,0,none⟩) 1 1) (ns:=[⟨k,0,ByteArray.empty⟩]) (NdsOwn.at (World.ownsRow_lit (base:=w4.heap.size) (size:=3) (e:=87) w4 #[.int .i64 k,.int .i64 0,.string ByteArray.empty] 1 (Nat.le_refl _) (by unfold maxLen;omega) rfl)) (by simp) rfl (.tmp 16) (.tmp 19) rfl (w.heap.size+3) _ _ rfl rfl (NdsOwn.keep ((Below.refl _ _).alloc (Nat.le_refl _) _) h4) (by simp;omega) (by omega) ?_;intro v7 w7 h7 h8 h9;obtain ⟨a7,c7,rfl⟩:=h7.slice;have hg7:Below (w.heap.size+3) w4 w7:=((Below.refl _ _).alloc (by omega) _).grown h8 (by simp;omega) (fun j hj=>(World.ownsRow.lt h4 j hj).1);have hs7:=hg7.size;have r2:=hg7.cell (p:=⟨w.heap.size+2,0,none⟩) (by simp);have r3:=hg7.frozen (p:=⟨w.heap.size+2,0,none⟩) (by simp);rw [p2] at r2;rw [p3] at r3))
 rw [List.length_append] at h7
 have hz7:(w7.setCell { block:=w.heap.size+1+1,off:=0 } (.slice a7 (zs.length+1) c7)).cell? ⟨w.heap.size+1+1,0,none⟩=some (.slice a7 (zs.length+1) c7):=by
  have r2':w7.cell? ⟨w.heap.size+1+1,0,none⟩=some (.slice none 0 0):=r2
  go_simp
 refine bodyPost_ret (v:=.agg #[.slice a7 (zs.length+1) c7]) (by simp [results,Tryz.results136,go_sem,hz7]) rfl ⟨_,rfl,?_,?_⟩
 ·rw [← HZ.out]
  exact NdsOwn.mono (B:=w.heap.size+3) (by omega) (NdsOwn.setLow h7 (by show _<_;simp) _)
 ·exact (((((hB3.trans (hg1.mono (by omega))).trans (hg4.mono (by omega))).trans (hg7.mono (by omega)))).setCell (by simp;omega) _)
theorem tmSeq_any (va vb:Value) (xs ys:List Nd) (w:World) (ha:NdsAt w va xs) (hb:NdsAt w vb ys) (hn:xs.length≤100000) (hm:ys.length≤100000) :
  Calls Tryz.prog 76 #[.agg #[va],.agg #[vb]] w (TmqP (xs ++ ys ++ [⟨15,0,ByteArray.empty⟩]) w):=by
 obtain ⟨aa,ca,rfl⟩:=ha.slice
 obtain ⟨ab,cb,rfl⟩:=hb.slice
 have hB3:Below w.heap.size w (((w.alloc (.cells #[.slice aa xs.length ca] 27)).alloc (.cells #[.slice ab ys.length cb] 27)).alloc (.cells #[.slice none 0 0] 27)):=(((Below.refl _ _).alloc (Nat.le_refl _) _).alloc (by simp) _).alloc (by simp;omega) _
 obtain ⟨zs,hzs⟩:∃ zs,zs=xs ++ ys ++ [(⟨15,0,ByteArray.empty⟩:Nd)]:=⟨_,rfl⟩
 rw [← hzs]
 have HZ:=Lib.hid hzs
 clear hzs
 go_enter Tryz.func76,Tryz.ntmps76
 go_wp2_with (go_at_call 136;refine (tmJoin_any _ _ xs ys 15 _ (ha.keep hB3) (hb.keep hB3) hn hm).mono ?_;rintro e w2 ⟨v2,rfl,ho2,hb2⟩;rw [← HZ.out] at ho2;obtain ⟨a2,c2,rfl⟩:=ho2.slice;have q2:=hb2.cell (p:=⟨w.heap.size+2,0,none⟩) (by simp);have q3:=hb2.frozen (p:=⟨w.heap.size+2,0,none⟩) (by simp);simp [go_sem] at q2 q3)
 have q2':w2.cell? ⟨w.heap.size+1+1,0,none⟩=some (.slice none 0 0):=q2
 have hz7:(w2.setCell { block:=w.heap.size+1+1,off:=0 } (.slice a2 zs.length c2)).cell? ⟨w.heap.size+1+1,0,none⟩=some (.slice a2 zs.length c2):=by go_simp
 refine bodyPost_ret (v:=.agg #[.slice a2 zs.length c2]) (by simp [results,Tryz.results76,go_sem,hz7]) rfl ⟨_,rfl,?_,?_⟩
 ·exact NdsOwn.mono (B:=w.heap.size+3) (by omega) (NdsOwn.setLow (by simpa using ho2) (by show _<_;simp) _)
 ·exact (hB3.trans (hb2.mono (by simp;omega))).setCell (by simp;omega) _
theorem tmPar_any (va vb:Value) (xs ys:List Nd) (w:World) (ha:NdsAt w va xs) (hb:NdsAt w vb ys) (hn:xs.length≤100000) (hm:ys.length≤100000) :
  Calls Tryz.prog 137 #[.agg #[va],.agg #[vb]] w (TmqP (xs ++ ys ++ [⟨16,0,ByteArray.empty⟩]) w):=by
 obtain ⟨aa,ca,rfl⟩:=ha.slice
 obtain ⟨ab,cb,rfl⟩:=hb.slice
 have hB3:Below w.heap.size w (((w.alloc (.cells #[.slice aa xs.length ca] 27)).alloc (.cells #[.slice ab ys.length cb] 27)).alloc (.cells #[.slice none 0 0] 27)):=(((Below.refl _ _).alloc (Nat.le_refl _) _).alloc (by simp) _).alloc (by simp;omega) _
 obtain ⟨zs,hzs⟩:∃ zs,zs=xs ++ ys ++ [(⟨16,0,ByteArray.empty⟩:Nd)]:=⟨_,rfl⟩
 rw [← hzs]
 have HZ:=Lib.hid hzs
 clear hzs
 go_enter Tryz.func137,Tryz.ntmps137
 go_wp2_with (go_at_call 136;refine (tmJoin_any _ _ xs ys 16 _ (ha.keep hB3) (hb.keep hB3) hn hm).mono ?_;rintro e w2 ⟨v2,rfl,ho2,hb2⟩;rw [← HZ.out] at ho2;obtain ⟨a2,c2,rfl⟩:=ho2.slice;have q2:=hb2.cell (p:=⟨w.heap.size+2,0,none⟩) (by simp);have q3:=hb2.frozen (p:=⟨w.heap.size+2,0,none⟩) (by simp);simp [go_sem] at q2 q3)
 have q2':w2.cell? ⟨w.heap.size+1+1,0,none⟩=some (.slice none 0 0):=q2
 have hz7:(w2.setCell { block:=w.heap.size+1+1,off:=0 } (.slice a2 zs.length c2)).cell? ⟨w.heap.size+1+1,0,none⟩=some (.slice a2 zs.length c2):=by go_simp
 refine bodyPost_ret (v:=.agg #[.slice a2 zs.length c2]) (by simp [results,Tryz.results137,go_sem,hz7]) rfl ⟨_,rfl,?_,?_⟩
 ·exact NdsOwn.mono (B:=w.heap.size+3) (by omega) (NdsOwn.setLow (by simpa using ho2) (by show _<_;simp) _)
 ·exact (hB3.trans (hb2.mono (by simp;omega))).setCell (by simp;omega) _
theorem tmId_any (k:Int) (w:World):Calls Tryz.prog 53 #[.int .i64 k] w (TmqP [⟨1,k,ByteArray.empty⟩] w):=by
 have hB3:Below w.heap.size w (w.alloc (.cells #[.slice none 0 0] 27)):=(Below.refl _ _).alloc (Nat.le_refl _) _
 obtain ⟨zs,hzs⟩:∃ zs,zs=[(⟨1,k,ByteArray.empty⟩:Nd)]:=⟨_,rfl⟩
 rw [← hzs]
 have HZ:=Lib.hid hzs
 clear hzs
 go_enter Tryz.func53,Tryz.ntmps53
 go_wp2_with (go_at_call 100;refine (tmOne_any _ _ _).mono ?_;rintro e w2 ⟨v2,rfl,ho2,hb2⟩;rw [← HZ.out] at ho2;obtain ⟨a2,c2,rfl⟩:=ho2.slice;have q2:=hb2.cell (p:=⟨w.heap.size,0,none⟩) (by simp);have q3:=hb2.frozen (p:=⟨w.heap.size,0,none⟩) (by simp);simp [go_sem] at q2 q3)
 have hz7:(w2.setCell { block:=w.heap.size,off:=0 } (.slice a2 zs.length c2)).cell? ⟨w.heap.size,0,none⟩=some (.slice a2 zs.length c2):=by go_simp
 refine bodyPost_ret (v:=.agg #[.slice a2 zs.length c2]) (by simp [results,Tryz.results53,go_sem,hz7]) rfl ⟨_,rfl,?_,?_⟩
 ·exact NdsOwn.mono (B:=w.heap.size+1) (by omega) (NdsOwn.setLow (by simpa using ho2) (by show _<_;simp) _)
 ·exact (hB3.trans (hb2.mono (by simp))).setCell (by simp) _
end Go.Proofs.YtikgblkfmpecfaaGreatDoor
/-
  Drawn terms: layers of a leaf. Own work.
-/
namespace Go.Proofs.YtikgblkfmpecfaaGreatDoor
open Go.RowKit
theorem x_callT {P:Program} {ops:Array Oper} {Q:Exit → Act → World → Prop} {T:Nat → Prop} {w0:World} {i:Nat} {l:List Nat} {bs:Nat → Prop} {a:Act} {w:World} {o:Oper} (ho:ops[i]?=some o) (hk:opKind o=.act) (hg:o.guard=none) (hC:Exc T w0 w) (f:FuncId) (hTN:∀ k,T k → k<w0.heap.size)
  (h:∀ K:(Nat → Prop) → Act → World → Prop,(∀ bs a w,WX P ops (Exc T w0) w0.heap.size Q l bs a w → K bs a w) → ∃ args,(∀ w',Exc T w0 w' → (execOp a.eval o).run P w'=.ok (.enter f args) w') ∧
   ∀ w1,Exc T w0 w1 → Below w.heap.size w w1 → Calls P f args w1 fun e w2=>∃ v,e=.returned v∧Exc T w1 w2∧(Exc T w0 w2 → K bs (a.put o.dst v) w2)):WX P ops (Exc T w0) w0.heap.size Q (i :: l) bs a w:=by
 intro o' ho'
 rw [ho] at ho'
 obtain rfl:=Option.some.inj ho'
 obtain ⟨args,h1,h2⟩:=h _ fun _ _ _ h=>h
 unfold atX stepX
 rw [if_pos (by simp [Region.wanted,hg])]
 simp only [hk]
 intro w1 hw1
 have hC1:=(Exc.grows T w0).grow _ _ hC hw1
 unfold ActAt
 rw [h1 w1 hC1]
 refine (h2 w1 hC1 hw1).mono ?_
 rintro e w2 ⟨v,e1,e2,e3⟩
 exact ⟨v,e1,hC1.trans e2,e2.size,fun k hN _ hk=>e2.block k hk (fun ht=>by have:=hTN k ht;omega),bs,fun _ h=>h,fun _ h=>.inl h,e3 (hC1.trans e2)⟩
def layF (f:Int) (ns:List Nd):List Nd:=if 0<f then [⟨1,f,ByteArray.empty⟩] ++ ns ++ [⟨16,0,ByteArray.empty⟩] else ns
def layB (b:Int) (ns:List Nd):List Nd:=if 0<b then ns ++ [⟨1,b,ByteArray.empty⟩] ++ [⟨16,0,ByteArray.empty⟩] else ns
def layL (f:Int) (ns:List Nd) (b:Int):List Nd:=layB b (layF f ns)
theorem tmLayer_any (v:Value) (ns:List Nd) (f b:Int) (w:World) (hv:NdsAt w v ns) (hn:ns.length≤10000) :
  Calls Tryz.prog 77 #[.int .i64 f,.agg #[v],.int .i64 b] w fun e w'=>∃ v',e=.returned (.agg #[v'])∧NdsAt w' v' (layL f ns b)∧(v'=v∨NdsOwn w' w.heap.size v' (layL f ns b))∧Below w.heap.size w w':=by
 obtain ⟨aa,ca,rfl⟩:=hv.slice
 have hB2:Below w.heap.size w ((w.alloc (.cells #[.slice aa ns.length ca] 27)).alloc (.cells #[.slice none 0 0] 27)):=((Below.refl _ _).alloc (Nat.le_refl _) _).alloc (by simp) _
 by_cases hf:0<f
 ·obtain ⟨zs,hzs⟩:∃ zs,zs=layF f ns:=⟨_,rfl⟩
  have hz1:zs=[⟨1,f,ByteArray.empty⟩] ++ ns ++ [⟨16,0,ByteArray.empty⟩]:=by rw [hzs,layF,if_pos hf]
  have hzl:zs.length≤ns.length+2:=by rw [hz1];simp
  have HL:Hid (layL f ns b=layB b zs):=Lib.hid (by rw [hzs];rfl)
  have HZ:=Lib.hid hz1
  clear hz1 hzs
  go_enter Tryz.func77,Tryz.ntmps77
  go_wp2_with fail
  refine region_acts2 (C:=Exc (NoT) _) 2 [0,1,2,3] [4] (by kernel_rfl) (by kernel_rfl) (Exc.grows _ _) (Exc.refl _ _) ?_
  iterate 1 (apply x_st rfl rfl rfl;(focus intro u hc' hf';go_simp <;> rfl);intro K hK;go_simp;apply hK;clear hK K)
  refine x_call rfl rfl rfl (Exc.grows _ _) (Exc.refl _ _) 53 (fun K hK=>?_);apply Exists.intro;refine ⟨fun w' hw'=>?_,fun w1 hw1 hbw1=>?_⟩;(focus go_simp;rfl);refine (tmId_any f _).mono ?_;rintro e w4 ⟨v4,rfl,ho4,hb4⟩;refine ⟨_,rfl,hb4,fun hx=>?_⟩;go_simp;apply hK;clear hK K
  obtain ⟨a4,c4,rfl⟩:=ho4.slice
  iterate 1 (apply x_st rfl rfl rfl;(focus intro u hc' hf';go_simp <;> rfl);intro K hK;go_simp;apply hK;clear hK K)
  refine x_call rfl rfl rfl (Exc.grows _ _) (hx) 137 (fun K hK=>?_);apply Exists.intro;refine ⟨fun w' hw'=>?_,fun w5 hw5 hbw5=>?_⟩;(focus go_simp;rfl);refine (tmPar_any _ _ _ ns _ (ho4.at.keep hbw5) ((hv.keep hB2).keep (((Below.refl _ _).drew).trans (hw5.toBelow.mono (by simp)))) (by simp) (by omega)).mono ?_;rintro e w6 ⟨v6,rfl,ho6,hb6⟩;refine ⟨_,rfl,hb6,fun hx=>?_⟩;go_simp;apply hK;clear hK K
  rw [← HZ.out] at ho6
  obtain ⟨a6,c6,rfl⟩:=ho6.slice
  refine x_nil ?_
  have hBw6:Below w.heap.size w w6:=hB2.trans (((Below.refl _ _).drew).trans (hx.toBelow.mono (by simp;omega)))
  have xB6:=hx.toBelow
  have xb6:w6.cell? ⟨w.heap.size,0,none⟩=some (.slice aa ns.length ca):=by
   rw [xB6.cell (p:=⟨w.heap.size,0,none⟩) (by simp;omega)];simp [go_sem]
  have xf6:w6.frozen? ⟨w.heap.size,0,none⟩=false:=by
   rw [xB6.frozen (p:=⟨w.heap.size,0,none⟩) (by simp;omega)];simp [go_sem]
  have xr6:w6.cell? ⟨w.heap.size+1,0,none⟩=some (.slice none 0 0):=by
   rw [xB6.cell (p:=⟨w.heap.size+1,0,none⟩) (by simp)];simp [go_sem]
  have xg6:w6.frozen? ⟨w.heap.size+1,0,none⟩=false:=by
   rw [xB6.frozen (p:=⟨w.heap.size+1,0,none⟩) (by simp)];simp [go_sem]
  have hs5:w.heap.size+2≤w5.heap.size:=by have:=hw5.size;simpa using this
  have ho6':NdsOwn w6 (w.heap.size+2) (.slice a6 zs.length c6) zs:=NdsOwn.mono hs5 ho6
  have hs6:w.heap.size+2≤w6.heap.size:=by have:=hb6.size;omega
  clear hx hw5 hbw5 hb6 ho4 hb4 hw1 hbw1 xB6 ho6 hs5
  refine ⟨Exc (fun j=>j=w.heap.size) w6,w6.heap.size,Exc.grows _ _,Exc.refl _ _,?_⟩
  refine x_do rfl rfl rfl (Exc.grows _ _) (Exc.refl _ _) (fun K hK=>?_)
  intro w7 hw7 hb7
  have xb7:w7.cell? ⟨w.heap.size,0,none⟩=some (.slice aa ns.length ca):=cell_keep hb7 xb6
  have xf7:w7.frozen? ⟨w.heap.size,0,none⟩=false:=(hb7.frozen (p:=⟨w.heap.size,0,none⟩) (by show w.heap.size<_;omega)).trans xf6
  have xr7:w7.cell? ⟨w.heap.size+1,0,none⟩=some (.slice none 0 0):=cell_keep hb7 xr6
  have xg7:w7.frozen? ⟨w.heap.size+1,0,none⟩=false:=(hb7.frozen (p:=⟨w.heap.size+1,0,none⟩) (by show w.heap.size+1<_;omega)).trans xg6
  refine ⟨w7.setCell ⟨w.heap.size,0,none⟩ (.slice a6 zs.length c6),?_,⟨exc_set hw7 (.inr rfl) _,by simp,fun j hj _ _=>Below.heap_setCell _ _ _ _ (fun h=>by have:j=w.heap.size:=h;omega)⟩,?_⟩
  ·go_simp
  go_simp
  refine hK _ _ _ ?_
  clear hK K
  refine x_nil ?_
  obtain ⟨W,hW⟩:∃ W,W=w7.setCell ⟨w.heap.size,0,none⟩ (.slice a6 zs.length c6):=⟨_,rfl⟩
  have yb:W.cell? ⟨w.heap.size,0,none⟩=some (.slice a6 zs.length c6):=by rw [hW];go_simp
  have yf:W.frozen? ⟨w.heap.size,0,none⟩=false:=by rw [hW];go_simp
  have yr:W.cell? ⟨w.heap.size+1,0,none⟩=some (.slice none 0 0):=by rw [hW];go_simp
  have yg:W.frozen? ⟨w.heap.size+1,0,none⟩=false:=by rw [hW];go_simp
  have yo:NdsOwn W (w.heap.size+2) (.slice a6 zs.length c6) zs:=by rw [hW];exact NdsOwn.setLow (ho6'.keep hb7) (by show _<_;simp) _
  have yB:Below w.heap.size w W:=by rw [hW];exact (hBw6.trans (hb7.mono (by omega))).setCell (Nat.le_refl _) _
  have ys:w.heap.size+2≤W.heap.size:=by rw [hW];have:=hb7.size;simp;omega
  have yv:NdsAt W (.slice a6 zs.length c6) zs:=yo.at
  have ys1:w.heap.size<W.heap.size:=by omega
  have yk:Hid (∀ u,NdsAt (W.setCell ⟨w.heap.size+1,0,none⟩ u) (.slice a6 zs.length c6) zs∧(Value.slice a6 zs.length c6=.slice aa ns.length ca∨NdsOwn (W.setCell ⟨w.heap.size+1,0,none⟩ u) w.heap.size (.slice a6 zs.length c6) zs)):=Lib.hid fun u=>⟨(NdsOwn.setLow yo (by show _<_;simp) _).at,.inr (NdsOwn.mono (by omega) (NdsOwn.setLow yo (by show _<_;simp) _))⟩
  rw [← hW]
  clear yo hW xb7 xf7 xr7 xg7 hw7 hb7 xb6 xf6 xr6 xg6 hs6 ho6' hBw6
  by_cases hb:0<b
  ·obtain ⟨us,hus⟩:∃ us,us=layB b zs:=⟨_,rfl⟩
   have hu1:us=zs ++ [⟨1,b,ByteArray.empty⟩] ++ [⟨16,0,ByteArray.empty⟩]:=by rw [hus,layB,if_pos hb]
   have hul:us.length≤ns.length+4:=by rw [hu1];simp;omega
   have HU:Hid (layL f ns b=us):=Lib.hid (by rw [HL.out,hus])
   have HY:=Lib.hid hu1
   clear hu1 hus
   go_wp2_with fail
   refine region_acts2 (C:=Exc (NoT) _) 4 [0,1,2,3] [4] (by kernel_rfl) (by kernel_rfl) (Exc.grows _ _) (Exc.refl _ _) ?_
   iterate 2 (apply x_st rfl rfl rfl;(focus intro u hc' hf';go_simp <;> rfl);intro K hK;go_simp;apply hK;clear hK K)
   refine x_call rfl rfl rfl (Exc.grows _ _) (Exc.refl _ _) 53 (fun K hK=>?_);apply Exists.intro;refine ⟨fun w' hw'=>?_,fun w1 hw1 hbw1=>?_⟩;(focus go_simp;rfl);refine (tmId_any b _).mono ?_;rintro e w4 ⟨v4,rfl,ho4,hb4⟩;refine ⟨_,rfl,hb4,fun hx=>?_⟩;go_simp;apply hK;clear hK K
   obtain ⟨a4,c4,rfl⟩:=ho4.slice
   refine x_call rfl rfl rfl (Exc.grows _ _) (hx) 137 (fun K hK=>?_);apply Exists.intro;refine ⟨fun w' hw'=>?_,fun w5 hw5 hbw5=>?_⟩;(focus go_simp;rfl);refine (tmPar_any _ _ zs _ _ (yv.keep (((Below.refl _ _).drew).trans (hw5.toBelow.mono (by simp)))) (ho4.at.keep hbw5) (by omega) (by simp)).mono ?_;rintro e w6 ⟨v6,rfl,ho6,hb6⟩;refine ⟨_,rfl,hb6,fun hx=>?_⟩;go_simp;apply hK;clear hK K
   rw [← HY.out] at ho6
   obtain ⟨a8,c8,rfl⟩:=ho6.slice
   refine x_nil ?_
   have xB6:=hx.toBelow
   have hBw6:Below W.heap.size W w6:=((Below.refl _ _).drew).trans (hx.toBelow.mono (by simp))
   have xb6:w6.cell? ⟨w.heap.size,0,none⟩=some (.slice a6 zs.length c6):=cell_keep hBw6 yb
   have xf6:w6.frozen? ⟨w.heap.size,0,none⟩=false:=(hBw6.frozen (p:=⟨w.heap.size,0,none⟩) (by show w.heap.size<_;omega)).trans yf
   have xr6:w6.cell? ⟨w.heap.size+1,0,none⟩=some (.slice none 0 0):=cell_keep hBw6 yr
   have xg6:w6.frozen? ⟨w.heap.size+1,0,none⟩=false:=(hBw6.frozen (p:=⟨w.heap.size+1,0,none⟩) (by show w.heap.size+1<_;omega)).trans yg
   have hs5:w.heap.size+2≤w5.heap.size:=by have:=hw5.size;simp at this;omega
   have ho6':NdsOwn w6 (w.heap.size+2) (.slice a8 us.length c8) us:=NdsOwn.mono hs5 ho6
   have hs6:w.heap.size+2≤w6.heap.size:=by have:=hb6.size;omega
   clear hx hw5 hbw5 hb6 ho4 hb4 xB6 ho6 hs5
   refine ⟨Exc (fun j=>j=w.heap.size) w6,w6.heap.size,Exc.grows _ _,Exc.refl _ _,?_⟩
   refine x_do rfl rfl rfl (Exc.grows _ _) (Exc.refl _ _) (fun K hK=>?_)
   intro w7 hw7 hb7
   have xb7:w7.cell? ⟨w.heap.size,0,none⟩=some (.slice a6 zs.length c6):=cell_keep hb7 xb6
   have xf7:w7.frozen? ⟨w.heap.size,0,none⟩=false:=(hb7.frozen (p:=⟨w.heap.size,0,none⟩) (by show w.heap.size<_;omega)).trans xf6
   have xr7:w7.cell? ⟨w.heap.size+1,0,none⟩=some (.slice none 0 0):=cell_keep hb7 xr6
   have xg7:w7.frozen? ⟨w.heap.size+1,0,none⟩=false:=(hb7.frozen (p:=⟨w.heap.size+1,0,none⟩) (by show w.heap.size+1<_;omega)).trans xg6
   refine ⟨w7.setCell ⟨w.heap.size,0,none⟩ (.slice a8 us.length c8),?_,⟨exc_set hw7 (.inr rfl) _,by simp,fun j hj _ _=>Below.heap_setCell _ _ _ _ (fun h=>by have:j=w.heap.size:=h;omega)⟩,?_⟩
   ·go_simp
   go_simp
   refine hK _ _ _ ?_
   clear hK K
   refine x_nil ?_
   go_wp2
   have hz7:((w7.setCell ⟨w.heap.size,0,none⟩ (.slice a8 us.length c8)).setCell ⟨w.heap.size+1,0,none⟩ (.slice a8 us.length c8)).cell? ⟨w.heap.size+1,0,none⟩=some (.slice a8 us.length c8):=by go_simp
   have hO:NdsOwn ((w7.setCell ⟨w.heap.size,0,none⟩ (.slice a8 us.length c8)).setCell ⟨w.heap.size+1,0,none⟩ (.slice a8 us.length c8)) (w.heap.size+2) (.slice a8 us.length c8) us:=NdsOwn.setLow (NdsOwn.setLow (ho6'.keep hb7) (by show _<_;simp) _) (by show _<_;simp) _
   refine bodyPost_ret (v:=.agg #[.slice a8 us.length c8]) (by simp [results,Tryz.results77,go_sem,hz7]) rfl ⟨_,rfl,?_,.inr ?_,?_⟩
   ·rw [HU.out];exact hO.at
   ·rw [HU.out];exact NdsOwn.mono (by omega) hO
   ·exact (((yB.trans (hBw6.mono yB.size)).trans (hb7.mono (by omega))).setCell (Nat.le_refl _) _).setCell (by simp) _
  ·have HU:Hid (layL f ns b=zs):=Lib.hid (by rw [HL.out,layB,if_neg hb])
   go_wp2
   have hz7:(W.setCell ⟨w.heap.size+1,0,none⟩ (.slice a6 zs.length c6)).cell? ⟨w.heap.size+1,0,none⟩=some (.slice a6 zs.length c6):=by go_simp
   refine bodyPost_ret (v:=.agg #[.slice a6 zs.length c6]) (by simp [results,Tryz.results77,go_sem,hz7]) rfl ⟨_,rfl,?_,?_,?_⟩
   ·rw [HU.out];exact (yk.out _).1
   ·rw [HU.out];exact (yk.out _).2
   ·exact yB.setCell (by simp) _
 ·have HL:Hid (layL f ns b=layB b ns):=Lib.hid (by rw [layL,layF,if_neg hf])
  by_cases hb:0<b
  ·obtain ⟨us,hus⟩:∃ us,us=layB b ns:=⟨_,rfl⟩
   have hu1:us=ns ++ [⟨1,b,ByteArray.empty⟩] ++ [⟨16,0,ByteArray.empty⟩]:=by rw [hus,layB,if_pos hb]
   have hul:us.length≤ns.length+4:=by rw [hu1];simp
   have HU:Hid (layL f ns b=us):=Lib.hid (by rw [HL.out,hus])
   have HY:=Lib.hid hu1
   clear hu1 hus
   go_enter Tryz.func77,Tryz.ntmps77
   go_wp2_with fail
   obtain ⟨W,hW⟩:∃ W,W=(w.alloc (.cells #[.slice aa ns.length ca] 27)).alloc (.cells #[.slice none 0 0] 27):=⟨_,rfl⟩
   have yb:W.cell? ⟨w.heap.size,0,none⟩=some (.slice aa ns.length ca):=by rw [hW];simp [go_sem]
   have yf:W.frozen? ⟨w.heap.size,0,none⟩=false:=by rw [hW];simp [go_sem]
   have yr:W.cell? ⟨w.heap.size+1,0,none⟩=some (.slice none 0 0):=by rw [hW];simp [go_sem]
   have yg:W.frozen? ⟨w.heap.size+1,0,none⟩=false:=by rw [hW];simp [go_sem]
   have yB:Below w.heap.size w W:=by rw [hW];exact hB2
   have ys:w.heap.size+2≤W.heap.size:=by rw [hW];simp
   have ys1:w.heap.size<W.heap.size:=by omega
   have yv:NdsAt W (.slice aa ns.length ca) ns:=hv.keep yB
   have hzl:ns.length≤ns.length+2:=by omega
   have yk:Hid (∀ u,NdsAt (W.setCell ⟨w.heap.size+1,0,none⟩ u) (.slice aa ns.length ca) ns∧(Value.slice aa ns.length ca=.slice aa ns.length ca∨NdsOwn (W.setCell ⟨w.heap.size+1,0,none⟩ u) w.heap.size (.slice aa ns.length ca) ns)):=Lib.hid fun u=>⟨hv.keep (yB.setCell (by simp) _),.inl rfl⟩
   rw [← hW]
   clear hW
   refine region_acts2 (C:=Exc (NoT) _) 4 [0,1,2,3] [4] (by kernel_rfl) (by kernel_rfl) (Exc.grows _ _) (Exc.refl _ _) ?_
   iterate 2 (apply x_st rfl rfl rfl;(focus intro u hc' hf';go_simp <;> rfl);intro K hK;go_simp;apply hK;clear hK K)
   refine x_call rfl rfl rfl (Exc.grows _ _) (Exc.refl _ _) 53 (fun K hK=>?_);apply Exists.intro;refine ⟨fun w' hw'=>?_,fun w1 hw1 hbw1=>?_⟩;(focus go_simp;rfl);refine (tmId_any b _).mono ?_;rintro e w4 ⟨v4,rfl,ho4,hb4⟩;refine ⟨_,rfl,hb4,fun hx=>?_⟩;go_simp;apply hK;clear hK K
   obtain ⟨a4,c4,rfl⟩:=ho4.slice
   refine x_call rfl rfl rfl (Exc.grows _ _) (hx) 137 (fun K hK=>?_);apply Exists.intro;refine ⟨fun w' hw'=>?_,fun w5 hw5 hbw5=>?_⟩;(focus go_simp;rfl);refine (tmPar_any _ _ ns _ _ (yv.keep (((Below.refl _ _).drew).trans (hw5.toBelow.mono (by simp)))) (ho4.at.keep hbw5) (by omega) (by simp)).mono ?_;rintro e w6 ⟨v6,rfl,ho6,hb6⟩;refine ⟨_,rfl,hb6,fun hx=>?_⟩;go_simp;apply hK;clear hK K
   rw [← HY.out] at ho6
   obtain ⟨a8,c8,rfl⟩:=ho6.slice
   refine x_nil ?_
   have xB6:=hx.toBelow
   have hBw6:Below W.heap.size W w6:=((Below.refl _ _).drew).trans (hx.toBelow.mono (by simp))
   have xb6:w6.cell? ⟨w.heap.size,0,none⟩=some (.slice aa ns.length ca):=cell_keep hBw6 yb
   have xf6:w6.frozen? ⟨w.heap.size,0,none⟩=false:=(hBw6.frozen (p:=⟨w.heap.size,0,none⟩) (by show w.heap.size<_;omega)).trans yf
   have xr6:w6.cell? ⟨w.heap.size+1,0,none⟩=some (.slice none 0 0):=cell_keep hBw6 yr
   have xg6:w6.frozen? ⟨w.heap.size+1,0,none⟩=false:=(hBw6.frozen (p:=⟨w.heap.size+1,0,none⟩) (by show w.heap.size+1<_;omega)).trans yg
   have hs5:w.heap.size+2≤w5.heap.size:=by have:=hw5.size;simp at this;omega
   have ho6':NdsOwn w6 (w.heap.size+2) (.slice a8 us.length c8) us:=NdsOwn.mono hs5 ho6
   have hs6:w.heap.size+2≤w6.heap.size:=by have:=hb6.size;omega
   clear hx hw5 hbw5 hb6 ho4 hb4 xB6 ho6 hs5
   refine ⟨Exc (fun j=>j=w.heap.size) w6,w6.heap.size,Exc.grows _ _,Exc.refl _ _,?_⟩
   refine x_do rfl rfl rfl (Exc.grows _ _) (Exc.refl _ _) (fun K hK=>?_)
   intro w7 hw7 hb7
   have xb7:w7.cell? ⟨w.heap.size,0,none⟩=some (.slice aa ns.length ca):=cell_keep hb7 xb6
   have xf7:w7.frozen? ⟨w.heap.size,0,none⟩=false:=(hb7.frozen (p:=⟨w.heap.size,0,none⟩) (by show w.heap.size<_;omega)).trans xf6
   have xr7:w7.cell? ⟨w.heap.size+1,0,none⟩=some (.slice none 0 0):=cell_keep hb7 xr6
   have xg7:w7.frozen? ⟨w.heap.size+1,0,none⟩=false:=(hb7.frozen (p:=⟨w.heap.size+1,0,none⟩) (by show w.heap.size+1<_;omega)).trans xg6
   refine ⟨w7.setCell ⟨w.heap.size,0,none⟩ (.slice a8 us.length c8),?_,⟨exc_set hw7 (.inr rfl) _,by simp,fun j hj _ _=>Below.heap_setCell _ _ _ _ (fun h=>by have:j=w.heap.size:=h;omega)⟩,?_⟩
   ·go_simp
   go_simp
   refine hK _ _ _ ?_
   clear hK K
   refine x_nil ?_
   go_wp2
   have hz7:((w7.setCell ⟨w.heap.size,0,none⟩ (.slice a8 us.length c8)).setCell ⟨w.heap.size+1,0,none⟩ (.slice a8 us.length c8)).cell? ⟨w.heap.size+1,0,none⟩=some (.slice a8 us.length c8):=by go_simp
   have hO:NdsOwn ((w7.setCell ⟨w.heap.size,0,none⟩ (.slice a8 us.length c8)).setCell ⟨w.heap.size+1,0,none⟩ (.slice a8 us.length c8)) (w.heap.size+2) (.slice a8 us.length c8) us:=NdsOwn.setLow (NdsOwn.setLow (ho6'.keep hb7) (by show _<_;simp) _) (by show _<_;simp) _
   refine bodyPost_ret (v:=.agg #[.slice a8 us.length c8]) (by simp [results,Tryz.results77,go_sem,hz7]) rfl ⟨_,rfl,?_,.inr ?_,?_⟩
   ·rw [HU.out];exact hO.at
   ·rw [HU.out];exact NdsOwn.mono (by omega) hO
   ·exact (((yB.trans (hBw6.mono yB.size)).trans (hb7.mono (by omega))).setCell (Nat.le_refl _) _).setCell (by simp) _
  ·have HU:Hid (layL f ns b=ns):=Lib.hid (by rw [HL.out,layB,if_neg hb])
   go_enter Tryz.func77,Tryz.ntmps77
   go_wp2
   have hB3:Below w.heap.size w ((w.alloc (.cells #[.slice aa ns.length ca] 27)).alloc (.cells #[.slice aa ns.length ca] 27)):=((Below.refl _ _).alloc (Nat.le_refl _) _).alloc (by simp) _
   refine bodyPost_ret (v:=.agg #[.slice aa ns.length ca]) (by simp [results,Tryz.results77,go_sem]) rfl ⟨_,rfl,?_,.inl rfl,hB3⟩
   rw [HU.out];exact hv.keep hB3
end Go.Proofs.YtikgblkfmpecfaaGreatDoor
/-
  The draws: one, elem, among, of, leaf, then. Own work.
-/
namespace Go.Proofs.YtikgblkfmpecfaaGreatDoor
open Go.RowKit
def OneP (bc m:Nat) (w:World) (e:Ending) (w':World):Prop:=∃ x:Bool,e=.returned (.bool x)∧Cur bc (m+2) w'∧Exc (fun k=>k=bc) w w'
theorem one_any (bc m:Nat) (n:Int) (w:World) (h:Cur bc m w) (hm:m+2≤1099511627776) (hn:n≤1048576) :
  Calls Tryz.prog 39 #[.pointer (some ⟨bc,0,none⟩),.int .i64 n] w (OneP bc m w):=by
 go_enter Tryz.func39,Tryz.ntmps39
 go_wp2_with (go_at_call 38;refine (pick_any bc m n _ h hm hn).mono ?_;rintro e w2 ⟨x,rfl,x0,x1,x2,hc2,hx2⟩)
 go_ret
 exact ⟨_,rfl,hc2,hx2⟩
theorem l1Most_any (a b:Int) (w:World):Calls Tryz.prog 202 #[.int .i64 a,.int .i64 b] w fun e w'=>e=.returned (.int .i64 (if b<a then a else b))∧w=w':=by
 go_enter Tryz.func202,Tryz.ntmps202
 go_wp2
 all_goals go_ret
 all_goals simp_all
 all_goals omega
theorem elem_any (bc m:Nat) (p:Int) (w:World) (h:Cur bc m w) (hm:m+2≤1099511627776) (hn:p≤1048576) :
  Calls Tryz.prog 181 #[.pointer (some ⟨bc,0,none⟩),.int .i64 p] w (PkP bc m (if 1<p then p else 1) w):=by
 obtain ⟨q,hq⟩:∃ q,q=(if 1<p then p else 1):=⟨_,rfl⟩
 have HQ:=Lib.hid hq
 have hq2:q≤1048576:=by rw [hq];split <;> omega
 rw [← hq]
 clear hq
 go_enter Tryz.func181,Tryz.ntmps181
 go_wp2_with (first
  | (go_at_call 202;refine (l1Most_any _ _ _).mono ?_;rintro e w2 ⟨rfl,rfl⟩;rw [← HQ.out])
  | (go_at_call 38;refine (pick_any bc m q _ h hm hq2).mono ?_;rintro e w2 ⟨x,rfl,x0,x1,x2,hc2,hx2⟩))
 go_ret
 exact ⟨_,rfl,x0,x1,x2,hc2,hx2⟩
def NumsAt (w:World) (v:Value) (xs:List Int):Prop:=SlAt 1 v xs.length fun i b o=>∃ h:i<xs.length,w.cell? ⟨b,o,none⟩=some (.int .i64 xs[i])
theorem among_any (bc m:Nat) (v:Value) (xs:List Int) (w:World) (h:Cur bc m w) (hm:m+2≤1099511627776) (hv:NumsAt w v xs) (h0:0<xs.length) (hl:xs.length≤1000) (hne:∀ k,v.ownBlock=some k → k ≠ bc) :
  Calls Tryz.prog 80 #[.pointer (some ⟨bc,0,none⟩),v] w fun e w'=>∃ x ∈ xs,e=.returned (.int .i64 x)∧Cur bc (m+2) w'∧Exc (fun k=>k=bc) w w':=by
 obtain ⟨a,cap,rfl,hc,hat0⟩:=hv
 obtain ⟨b,o,rfl,_⟩:=hat0 0 h0
 have hbne:¬ b=bc:=hne b rfl
 have hat:Hid (∀ i,∀ hi:i<xs.length,w.cell? ⟨b,o+i,none⟩=some (.int .i64 xs[i])):=Lib.hid fun i hi=>by
  obtain ⟨b',o',e,_,hcl⟩:=hat0 i hi
  simp only [Option.some.injEq,Addr.mk.injEq,and_true] at e
  obtain ⟨rfl,rfl⟩:=e
  rw [Nat.mul_one] at hcl
  exact hcl
 clear hat0
 go_enter Tryz.func80,Tryz.ntmps80
 have hpick:=(pick_any bc m xs.length w h hm (by omega)).mono (R':=fun e w2=>∃ i:Nat,∃ hi:i<xs.length,e=.returned (.int .i64 (i:Int))∧w2.cell? ⟨b,o+i,none⟩=some (.int .i64 xs[i])∧Cur bc (m+2) w2∧Exc (fun k=>k=bc) w w2) (by
  rintro e w2 ⟨x,rfl,x0,x1,x2,hc2,hx2⟩
  obtain ⟨i,rfl⟩:=Int.eq_ofNat_of_zero_le x0
  have hi:i<xs.length:=by omega
  have hcl:=hat.out i hi
  exact ⟨i,hi,rfl,(hx2.cell.1 b _ (cell_lt hcl) hbne).trans hcl,hc2,hx2⟩)
 go_wp2_with (go_at_call 38;refine hpick.mono ?_;rintro e w2 ⟨i,hi,rfl,hcl,hc2,hx2⟩)
 go_ret
 exact ⟨_,List.getElem_mem _,rfl,hc2,hx2⟩
def TxsAt (w:World) (v:Value) (xs:List ByteArray):Prop:=SlAt 1 v xs.length fun i b o=>∃ h:i<xs.length,w.cell? ⟨b,o,none⟩=some (.string xs[i])
theorem of_any (bc m:Nat) (v:Value) (xs:List ByteArray) (w:World) (h:Cur bc m w) (hm:m+2≤1099511627776) (hv:TxsAt w v xs) (h0:0<xs.length) (hl:xs.length≤1000) (hne:∀ k,v.ownBlock=some k → k ≠ bc) :
  Calls Tryz.prog 49 #[.pointer (some ⟨bc,0,none⟩),v] w fun e w'=>∃ x ∈ xs,e=.returned (.string x)∧Cur bc (m+2) w'∧Exc (fun k=>k=bc) w w':=by
 obtain ⟨a,cap,rfl,hc,hat0⟩:=hv
 obtain ⟨b,o,rfl,_⟩:=hat0 0 h0
 have hbne:¬ b=bc:=hne b rfl
 have hat:Hid (∀ i,∀ hi:i<xs.length,w.cell? ⟨b,o+i,none⟩=some (.string xs[i])):=Lib.hid fun i hi=>by
  obtain ⟨b',o',e,_,hcl⟩:=hat0 i hi
  simp only [Option.some.injEq,Addr.mk.injEq,and_true] at e
  obtain ⟨rfl,rfl⟩:=e
  rw [Nat.mul_one] at hcl
  exact hcl
 clear hat0
 go_enter Tryz.func49,Tryz.ntmps49
 have hpick:=(pick_any bc m xs.length w h hm (by omega)).mono (R':=fun e w2=>∃ i:Nat,∃ hi:i<xs.length,e=.returned (.int .i64 (i:Int))∧w2.cell? ⟨b,o+i,none⟩=some (.string xs[i])∧Cur bc (m+2) w2∧Exc (fun k=>k=bc) w w2) (by
  rintro e w2 ⟨x,rfl,x0,x1,x2,hc2,hx2⟩
  obtain ⟨i,rfl⟩:=Int.eq_ofNat_of_zero_le x0
  have hi:i<xs.length:=by omega
  have hcl:=hat.out i hi
  exact ⟨i,hi,rfl,(hx2.cell.1 b _ (cell_lt hcl) hbne).trans hcl,hc2,hx2⟩)
 go_wp2_with (go_at_call 38;refine hpick.mono ?_;rintro e w2 ⟨i,hi,rfl,hcl,hc2,hx2⟩)
 go_ret
 exact ⟨_,List.getElem_mem _,rfl,hc2,hx2⟩
end Go.Proofs.YtikgblkfmpecfaaGreatDoor
/-
  The draws: leaf, then. Own work.
-/
namespace Go.Proofs.YtikgblkfmpecfaaGreatDoor
open Go.RowKit
def LfP (bc m:Nat) (p:Int) (w:World) (e:Ending) (w':World):Prop:=∃ (k x:Int) (v':Value),e=.returned (.agg #[v'])∧2≤k∧k≤14∧0≤x∧x<1048576∧(x=0∨x<p)∧NdsOwn w' w.heap.size v' [⟨k,x,ByteArray.empty⟩]∧Cur bc (m+4) w'∧Exc (fun k=>k=bc) w w'
theorem leaf_any (bc m:Nat) (p:Int) (d:Bool) (w:World) (h:Cur bc m w) (hm:m+4≤1099511627776) (hp:1<p) (hp2:p≤1048576) :
  Calls Tryz.prog 133 #[.pointer (some ⟨bc,0,none⟩),.int .i64 p,.bool d] w (LfP bc m p w):=by
 have hbz:=h.lt
 have h1:Cur bc m (w.alloc (.cells #[.slice none 0 0] 27)):=h.keep (alloc_below _ _)
 have hpe:(if 1<p then p else 1)=p:=by rw [if_pos hp]
 have hpick:=(pick_any bc m 13 _ h1 (by omega) (by omega)).mono (R':=fun e w2=>∃ x:Int,e=.returned (.int .i64 x)∧0≤x∧x≤12∧Cur bc (m+2) w2∧Exc (fun k=>k=bc) (w.alloc (.cells #[.slice none 0 0] 27)) w2) (by
  rintro e w2 ⟨x,rfl,x0,x1,x2,hc2,hx2⟩
  exact ⟨x,rfl,x0,by omega,hc2,hx2⟩)
 have hres:∀ w2,Exc (fun k=>k=bc) (w.alloc (.cells #[.slice none 0 0] 27)) w2 → ∀ w3,Below w2.heap.size w2 w3 → w3.cell? ⟨w.heap.size,0,none⟩=some (.slice none 0 0)∧w3.frozen? ⟨w.heap.size,0,none⟩=false∧w.heap.size<w3.heap.size:=by
  intro w2 hx w3 hb
  have hs:=hx.size
  simp only [World.size_alloc] at hs
  have hne:¬ w.heap.size=bc:=by omega
  refine ⟨cell_keep hb ((hx.cell.1 _ _ (by simp) hne).trans (by simp [go_sem])),(hb.frozen (p:=⟨w.heap.size,0,none⟩) (by show w.heap.size<_;omega)).trans ((hx.cell.2 _ _ (by simp) hne).trans (by simp [go_sem])),by have:=hb.size;omega⟩
 have hfin:∀ (k x:Int) (w2 w3:World) (m2:Nat) (v3:Value),m2≤m+4 → 2≤k → k≤14 → 0≤x → x<1048576 → (x=0∨x<p) → Cur bc m2 w2 → Exc (fun k=>k=bc) (w.alloc (.cells #[.slice none 0 0] 27)) w2 → NdsOwn w3 w2.heap.size v3 [⟨k,x,ByteArray.empty⟩] → Below w2.heap.size w2 w3 → LfP bc m p w (.returned (.agg #[v3])) (w3.setCell ⟨w.heap.size,0,none⟩ v3):=by
  intro k x w2 w3 m2 v3 hm2 k1 k2 y1 y2 y3 hc2 hx2 ho hb
  have hs:=hx2.size
  simp only [World.size_alloc] at hs
  have hE:Exc (fun k=>k=bc) w (w3.setCell ⟨w.heap.size,0,none⟩ v3):=exc_set ((((Exc.refl (fun k=>k=bc) w).below (alloc_below w _)).trans hx2).below hb) (.inl (Nat.le_refl _)) _
  refine ⟨k,x,v3,rfl,k1,k2,y1,y2,y3,NdsOwn.mono (B:=w2.heap.size) (by omega) (NdsOwn.setLow ho (by show w.heap.size<_;omega) _),?_,hE⟩
  have hc3:=(hc2.mono hm2).keep hb
  exact hc3.exc (T:=fun k=>k=w.heap.size) (exc_set (a:=⟨w.heap.size,0,none⟩) (Exc.refl (fun k=>k=w.heap.size) _) (.inr rfl) _) (fun k hk=>by omega)
 cases d
 ·go_enter Tryz.func133,Tryz.ntmps133
  go_wp2_with (first
   | (go_at_call 38;refine hpick.mono ?_;rintro e w2 ⟨x,rfl,x0,x1,hc2,hx2⟩)
   | (go_at_call 181;refine (elem_any bc (m+2) p _ hc2 (by omega) hp2).mono ?_;rw [hpe];rintro e w3 ⟨y,rfl,y0,y1,y2,hc3,hx3⟩)
   | (go_at_call 100;refine (tmOne_any _ _ _).mono ?_;rintro e w4 ⟨v4,rfl,ho4,hb4⟩;obtain ⟨a4,c4,rfl⟩:=ho4.slice;obtain ⟨qc,qf,qz⟩:=hres _ (by first|exact hx2.trans hx3|exact hx2) _ hb4))
  all_goals
   have hz7:(w4.setCell { block:=w.heap.size,off:=0 } (.slice a4 1 c4)).cell? ⟨w.heap.size,0,none⟩=some (.slice a4 1 c4):=by go_simp
   refine bodyPost_ret (v:=.agg #[.slice a4 1 c4]) (by simp [results,Tryz.results133,go_sem,hz7]) rfl ?_
   first
    | (refine hfin _ _ w3 w4 (m+2+2) _ (by omega) ?_ ?_ y0 y1 y2 hc3 (hx2.trans hx3) ho4 hb4 <;> first|omega|(simp only [beq_iff_eq] at *;omega))
    | (refine hfin _ _ w2 w4 (m+2) _ (by omega) ?_ ?_ (by omega) (by omega) (.inl rfl) hc2 hx2 ho4 hb4 <;> first|omega|(simp only [beq_iff_eq] at *;omega))
 ·go_enter Tryz.func133,Tryz.ntmps133
  go_wp2_with (first
   | (go_at_call 38;refine hpick.mono ?_;rintro e w2 ⟨x,rfl,x0,x1,hc2,hx2⟩)
   | (go_at_call 181;refine (elem_any bc (m+2) p _ hc2 (by omega) hp2).mono ?_;rw [hpe];rintro e w3 ⟨y,rfl,y0,y1,y2,hc3,hx3⟩)
   | (go_at_call 100;refine (tmOne_any _ _ _).mono ?_;rintro e w4 ⟨v4,rfl,ho4,hb4⟩;obtain ⟨a4,c4,rfl⟩:=ho4.slice;obtain ⟨qc,qf,qz⟩:=hres _ (by first|exact hx2.trans hx3|exact hx2) _ hb4))
  all_goals
   have hz7:(w4.setCell { block:=w.heap.size,off:=0 } (.slice a4 1 c4)).cell? ⟨w.heap.size,0,none⟩=some (.slice a4 1 c4):=by go_simp
   refine bodyPost_ret (v:=.agg #[.slice a4 1 c4]) (by simp [results,Tryz.results133,go_sem,hz7]) rfl ?_
   first
    | (refine hfin _ _ w3 w4 (m+2+2) _ (by omega) ?_ ?_ y0 y1 y2 hc3 (hx2.trans hx3) ho4 hb4 <;> first|omega|(simp only [beq_iff_eq] at *;omega))
    | (refine hfin _ _ w2 w4 (m+2) _ (by omega) ?_ ?_ (by omega) (by omega) (.inl rfl) hc2 hx2 ho4 hb4 <;> first|omega|(simp only [beq_iff_eq] at *;omega))
end Go.Proofs.YtikgblkfmpecfaaGreatDoor
/-
  The draws: drawn terms are trees; then. Own work.
-/
namespace Go.Proofs.YtikgblkfmpecfaaGreatDoor
open Go.RowKit
def Dn (k:Nat) (ns:List Nd):Prop:=∃ t:Tr,(∀ r st,treesGo (ns ++ r) st=treesGo r (t :: st))∧t.Ok∧ns.length≤k∧t.count≤k∧∀ n ∈ ns,n.name.size≤8
theorem Dn.mono {k k':Nat} {ns:List Nd} (h:Dn k ns) (hk:k≤k'):Dn k' ns:=by
 obtain ⟨t,h1,h2,h3,h4,h5⟩:=h
 exact ⟨t,h1,h2,by omega,by omega,h5⟩
theorem Dn.leaf {n:Nd} (h:LeafOk n) (h8:n.name.size≤8:=by simp):Dn 1 [n]:=by
 refine ⟨.leaf n,fun r st=>?_,h,by simp,by simp [Tr.count],by simpa using h8⟩
 have h5:n.kind ≠ 15∧n.kind ≠ 16:=by rcases h with h|h <;> omega
 cases st <;> simp [treesGo,h5.1,h5.2]
theorem Dn.bin {k l:Nat} {xs ys:List Nd} (c:Int) (hc:c=15∨c=16) (hx:Dn k xs) (hy:Dn l ys):Dn (k+l+1) (xs ++ ys ++ [⟨c,0,ByteArray.empty⟩]):=by
 obtain ⟨t,h1,h2,h3,h4,h5⟩:=hx
 obtain ⟨u,g1,g2,g3,g4,g5⟩:=hy
 have hn:∀ n ∈ xs ++ ys ++ [(⟨c,0,ByteArray.empty⟩:Nd)],n.name.size≤8:=by
  intro n hn
  simp only [List.mem_append,List.mem_singleton] at hn
  rcases hn with (hn|hn)|hn
  ·exact h5 n hn
  ·exact g5 n hn
  ·subst hn;simp
 rcases hc with rfl|rfl
 ·refine ⟨.seq t u,fun r st=>?_,⟨h2,g2⟩,by simp;omega,by simp [Tr.count];omega,hn⟩
  rw [List.append_assoc,List.append_assoc,h1,g1];simp [treesGo]
 ·refine ⟨.par t u,fun r st=>?_,⟨h2,g2⟩,by simp;omega,by simp [Tr.count];omega,hn⟩
  rw [List.append_assoc,List.append_assoc,h1,g1];simp [treesGo]
theorem Dn.lay {k:Nat} {ns:List Nd} (f b:Int) (hf:f≤12) (hb:b≤12) (h:Dn k ns):Dn (k+4) (layL f ns b):=by
 have h1:Dn (k+2) (layF f ns):=by
  unfold layF
  split
  ·exact (Dn.bin 16 (.inr rfl) (Dn.leaf (n:=⟨1,f,ByteArray.empty⟩) (.inr ⟨by simp,by simp,by simp;omega,by simp;omega⟩)) h).mono (by omega)
  ·exact h.mono (by omega)
 unfold layL layB
 split
 ·exact (Dn.bin 16 (.inr rfl) h1 (Dn.leaf (n:=⟨1,b,ByteArray.empty⟩) (.inr ⟨by simp,by simp,by simp;omega,by simp;omega⟩))).mono (by omega)
 ·exact h1.mono (by omega)
theorem Dn.one {k:Nat} {ns:List Nd} (h:Dn k ns):∃ t,treesGo ns []=some [t]∧t.Ok∧ns.length≤k∧t.count≤k:=by
 obtain ⟨t,h1,h2,h3,h4,_⟩:=h
 exact ⟨t,by have:=h1 [] [];simpa [treesGo] using this,h2,h3,h4⟩
theorem Dn.ok {k:Nat} {ns:List Nd} (h:Dn k ns) (hk:k≤1048576):NdsOk ns:=by
 obtain ⟨t,h1,h2,h3,h4,h5⟩:=h
 exact ⟨fun n hn=>by have:=h5 n hn;omega,by omega⟩
def TmA (bc:Nat) (w:World) (v:Value) (ns:List Nd):Prop:=NdsAt w v ns∧∀ k,v.ownBlock=some k → bc<k
theorem NdsOwn.tm {bc:Nat} {w:World} {B:Nat} {v:Value} {ns:List Nd} (h:NdsOwn w B v ns) (hB:bc<B):TmA bc w v ns :=
 ⟨h.at,fun k hk=>by have:=(World.ownsRow.lt h k hk).1;omega⟩
theorem TmA.exc {bc:Nat} {w w':World} {T:Nat → Prop} {v:Value} {ns:List Nd} (h:TmA bc w v ns) (hE:Exc T w w') (hT:∀ k,v.ownBlock=some k → ¬ T k):TmA bc w' v ns:=by
 obtain ⟨⟨a,c,rfl,h1,h2⟩,h3⟩:=h
 refine ⟨⟨a,c,rfl,h1,fun i hi=>?_⟩,h3⟩
 obtain ⟨b,o,rfl,h4,c0,c1,c2⟩:=h2 i hi
 have hz:=cell_lt c0
 have hn:=hT b rfl
 exact ⟨b,o,rfl,h4,(hE.cell.1 _ _ hz hn).trans c0,(hE.cell.1 _ _ hz hn).trans c1,(hE.cell.1 _ _ hz hn).trans c2⟩
theorem TmA.cur {bc:Nat} {w w':World} {v:Value} {ns:List Nd} (h:TmA bc w v ns) (hE:Exc (fun k=>k=bc) w w'):TmA bc w' v ns :=
 h.exc hE fun k hk e=>by have:=h.2 k hk;have:k=bc:=e;omega
theorem TmA.keep {bc:Nat} {w w':World} {v:Value} {ns:List Nd} (h:TmA bc w v ns) (hb:Below w.heap.size w w'):TmA bc w' v ns:=⟨h.1.keep hb,h.2⟩
end Go.Proofs.YtikgblkfmpecfaaGreatDoor
/-
  The draws: then. Own work.
-/
namespace Go.Proofs.YtikgblkfmpecfaaGreatDoor
open Go.RowKit
def ThP (bc m:Nat) (xs ys:List Nd) (vb:Value) (w:World) (e:Ending) (w':World):Prop :=
 ∃ v' zs,e=.returned (.agg #[v'])∧((v'=vb∧zs=ys)∨(zs=xs ++ ys ++ [⟨15,0,ByteArray.empty⟩]∧NdsOwn w' w.heap.size v' zs))∧TmA bc w' v' zs∧Cur bc (m+2) w'∧Exc (fun k=>k=bc) w w'
theorem then_any (bc m:Nat) (va vb:Value) (xs ys:List Nd) (w:World) (h:Cur bc m w) (hm:m+2≤1099511627776) (ha:TmA bc w va xs) (hb:TmA bc w vb ys) (hn:xs.length≤10000) (hl:ys.length≤10000) :
  Calls Tryz.prog 135 #[.pointer (some ⟨bc,0,none⟩),.agg #[va],.agg #[vb]] w (ThP bc m xs ys vb w):=by
 have hbz:=h.lt
 obtain ⟨aa,ca,rfl⟩:=ha.1.slice
 obtain ⟨ab,cb,rfl⟩:=hb.1.slice
 have hB3:Below w.heap.size w (((w.alloc (.cells #[.slice aa xs.length ca] 27)).alloc (.cells #[.slice ab ys.length cb] 27)).alloc (.cells #[.slice none 0 0] 27)):=(((Below.refl _ _).alloc (Nat.le_refl _) _).alloc (by simp) _).alloc (by simp;omega) _
 obtain ⟨W,hW⟩:∃ W,W=(((w.alloc (.cells #[.slice aa xs.length ca] 27)).alloc (.cells #[.slice ab ys.length cb] 27)).alloc (.cells #[.slice none 0 0] 27)):=⟨_,rfl⟩
 have cells:∀ w2,Exc (fun k=>k=bc) W w2 → w2.cell? ⟨w.heap.size,0,none⟩=some (.slice aa xs.length ca)∧w2.cell? ⟨w.heap.size+1,0,none⟩=some (.slice ab ys.length cb)∧w2.cell? ⟨w.heap.size+1+1,0,none⟩=some (.slice none 0 0)∧w2.frozen? ⟨w.heap.size+1+1,0,none⟩=false∧w.heap.size+1+1+1≤w2.heap.size:=by
  intro w2 hx
  have hs:=hx.size
  rw [hW] at hx hs
  simp only [World.size_alloc] at hs
  have hne:∀ j,¬ w.heap.size+j=bc:=fun j=>by omega
  refine ⟨(hx.cell.1 _ _ (by simp;omega) (hne 0)).trans (by simp [go_sem]),(hx.cell.1 _ _ (by simp) (hne 1)).trans (by simp [go_sem]),(hx.cell.1 _ _ (by simp) (hne 2)).trans (by simp [go_sem]),(hx.cell.2 _ _ (by simp) (hne 2)).trans (by simp [go_sem]),hs⟩
 have hBW:Below w.heap.size w W:=by rw [hW];exact hB3
 have hWs:W.heap.size=w.heap.size+1+1+1:=by rw [hW];simp
 have hCW:Cur bc m W:=h.keep hBW
 have haW:=ha.keep hBW
 have hbW:=hb.keep hBW
 have HWE:=Lib.hid hW
 obtain ⟨zs,hzs⟩:∃ zs,zs=xs ++ ys ++ [(⟨15,0,ByteArray.empty⟩:Nd)]:=⟨_,rfl⟩
 have hfin:∀ (w5:World) (m5:Nat) (v:Value) (us:List Nd),m5≤m+2 → Cur bc m5 w5 → Exc (fun k=>k=bc) W w5 → ((v=.slice ab ys.length cb∧us=ys)∨(us=xs ++ ys ++ [⟨15,0,ByteArray.empty⟩]∧NdsOwn w5 (w.heap.size+3) v us)) → ThP bc m xs ys (.slice ab ys.length cb) w (.returned (.agg #[v])) (w5.setCell ⟨w.heap.size+1+1,0,none⟩ v):=by
  intro w5 m5 v us hm5 hc5 hE5 hor
  have hs5:=hE5.size
  have hEW:Exc (fun k=>k=bc) w w5:=((Exc.refl (fun k=>k=bc) w).below hBW).trans hE5
  have hE6:Exc (fun k=>k=bc) w (w5.setCell ⟨w.heap.size+1+1,0,none⟩ v):=exc_set hEW (.inl (by show w.heap.size≤w.heap.size+1+1;omega)) _
  have hS:Exc (fun k=>k=w.heap.size+1+1) w5 (w5.setCell ⟨w.heap.size+1+1,0,none⟩ v):=exc_set (a:=⟨w.heap.size+1+1,0,none⟩) (Exc.refl (fun k=>k=w.heap.size+1+1) _) (.inr rfl) _
  have hor2:(v=.slice ab ys.length cb∧us=ys)∨(us=xs ++ ys ++ [⟨15,0,ByteArray.empty⟩]∧NdsOwn (w5.setCell ⟨w.heap.size+1+1,0,none⟩ v) (w.heap.size+3) v us):=by
   rcases hor with h1|⟨h1,h2⟩
   ·exact .inl h1
   ·exact .inr ⟨h1,h2.setLow (by show w.heap.size+1+1<_;omega) _⟩
  refine ⟨v,us,rfl,?_,?_,(hc5.mono hm5).exc (T:=fun k=>k=w.heap.size+1+1) hS (fun k hk=>by omega),hE6⟩
  ·rcases hor2 with h1|⟨h1,h2⟩
   ·exact .inl h1
   ·exact .inr ⟨h1,NdsOwn.mono (by omega) h2⟩
  ·rcases hor2 with ⟨rfl,rfl⟩|⟨h1,h2⟩
   ·exact hb.cur hE6
   ·exact h2.tm (by omega)
 have HZ:=Lib.hid hzs
 clear hzs
 go_enter Tryz.func135,Tryz.ntmps135
 go_wp2_with (first
  | (go_at_call 183;rw [← HWE.out];refine (tmIsId_any _ xs W haW.1).mono ?_;rintro e w2 ⟨d,rfl,hb2⟩;have hE2:Exc (fun k=>k=bc) W w2:=(Exc.refl _ _).below hb2;obtain ⟨c2a,c2b,c2c,c2f,c2s⟩:=cells w2 hE2)
  | (go_at_call 39;refine (one_any bc m 5 _ (hCW.keep hb2) hm (by omega)).mono ?_;rintro e w3 ⟨x,rfl,hc3,hx3⟩;have hE3:=hE2.trans hx3;obtain ⟨c3a,c3b,c3c,c3f,c3s⟩:=cells w3 hE3)
  | (go_at_call 76;refine (tmSeq_any _ _ xs ys _ (haW.cur (by first|exact hE3|exact hE2)).1 (hbW.cur (by first|exact hE3|exact hE2)).1 (by omega) (by omega)).mono ?_;rintro e w4 ⟨v4,rfl,ho4,hb4⟩;rw [← HZ.out] at ho4;obtain ⟨a4,c4,rfl⟩:=ho4.slice;obtain ⟨c4a,c4b,c4c,c4f,c4s⟩:=cells w4 ((by first|exact hE3|exact hE2:Exc (fun k=>k=bc) W _).below hb4)))
 all_goals
  first
   | (have hz7:(w4.setCell ⟨w.heap.size+1+1,0,none⟩ (.slice a4 zs.length c4)).cell? ⟨w.heap.size+1+1,0,none⟩=some (.slice a4 zs.length c4):=(by go_simp);refine bodyPost_ret (v:=.agg #[.slice a4 zs.length c4]) (by simp [results,Tryz.results135,go_sem,hz7]) rfl ?_;(first|exact hfin w4 (m+2) _ zs (by omega) (hc3.keep hb4) (hE3.below hb4) (.inr ⟨HZ.out,NdsOwn.mono (by omega) ho4⟩)|exact hfin w4 m _ zs (by omega) ((hCW.keep hb2).keep hb4) (hE2.below hb4) (.inr ⟨HZ.out,NdsOwn.mono (by omega) ho4⟩)))
   | (have hz7:(w3.setCell ⟨w.heap.size+1+1,0,none⟩ (.slice ab ys.length cb)).cell? ⟨w.heap.size+1+1,0,none⟩=some (.slice ab ys.length cb):=(by go_simp);refine bodyPost_ret (v:=.agg #[.slice ab ys.length cb]) (by simp [results,Tryz.results135,go_sem,hz7]) rfl ?_;exact hfin w3 (m+2) _ ys (by omega) hc3 hE3 (.inl ⟨rfl,rfl⟩))
end Go.Proofs.YtikgblkfmpecfaaGreatDoor
/-
  The draws: layers. Own work.
-/
namespace Go.Proofs.YtikgblkfmpecfaaGreatDoor
open Go.RowKit
structure LySt (bc m k:Nat) (w:World) (b13:Nat) (wr:World) (v:Value) (ns:List Nd):Prop where
 r0:wr.cell? ⟨w.heap.size,0,none⟩=some (.slice none 0 0)
 rf:wr.frozen? ⟨w.heap.size,0,none⟩=false
 lt:w.heap.size<b13
 t0:wr.cell? ⟨b13,0,none⟩=some v
 tf:wr.frozen? ⟨b13,0,none⟩=false
 own:NdsOwn wr (w.heap.size+1) v ns
 ne:∀ k,v.ownBlock=some k → k ≠ b13
 dn:Dn k ns
 cur:Cur bc m wr
 ex:Exc (fun k=>k=bc) w wr
theorem LySt.cur' {bc m m' k:Nat} {w:World} {b13:Nat} {wr w2:World} {v:Value} {ns:List Nd} (h:LySt bc m k w b13 wr v ns) (hE:Exc (fun k=>k=bc) wr w2) (hb:bc<w.heap.size) (hc:Cur bc m' w2):LySt bc m' k w b13 w2 v ns:=by
 have h13:=cell_lt h.t0
 have h0:=cell_lt h.r0
 have hlt:=h.lt
 have hn:¬ w.heap.size=bc:=by omega
 have hn2:¬ b13=bc:=by omega
 exact ⟨(hE.cell.1 _ _ h0 hn).trans h.r0,(hE.cell.2 _ _ h0 hn).trans h.rf,h.lt,(hE.cell.1 _ _ h13 hn2).trans h.t0,(hE.cell.2 _ _ h13 hn2).trans h.tf,owns_exc hE h.own (fun k hk e=>by have:=(World.ownsRow.lt h.own k hk).1;have:k=bc:=e;omega),h.ne,h.dn,hc,h.ex.trans hE⟩
theorem LySt.keep {bc m k:Nat} {w:World} {b13:Nat} {wr w2:World} {v:Value} {ns:List Nd} (h:LySt bc m k w b13 wr v ns) (hb:Below wr.heap.size wr w2) (hbc:bc<w.heap.size):LySt bc m k w b13 w2 v ns :=
 h.cur' ((Exc.refl _ _).below hb) hbc (h.cur.keep hb)
theorem LySt.set {bc m k k':Nat} {w:World} {b13:Nat} {wr:World} {v v':Value} {ns ns':List Nd} (h:LySt bc m k w b13 wr v ns) (hbc:bc<w.heap.size) (ho:NdsOwn wr (w.heap.size+1) v' ns') (hne:∀ k,v'.ownBlock=some k → k ≠ b13) (hd:Dn k' ns'):LySt bc m k' w b13 (wr.setCell ⟨b13,0,none⟩ v') v' ns':=by
 have h13:=cell_lt h.t0
 have h0:=cell_lt h.r0
 have hlt:=h.lt
 have r0:=h.r0
 have rf:=h.rf
 have t0:=h.t0
 have tf:=h.tf
 have hn:¬ w.heap.size=b13:=by omega
 have hS:Exc (fun k=>k=b13) wr (wr.setCell ⟨b13,0,none⟩ v'):=exc_set (a:=⟨b13,0,none⟩) (Exc.refl (fun k=>k=b13) _) (.inr rfl) _
 exact ⟨by go_simp,by go_simp,h.lt,by go_simp,by go_simp,owns_exc hS ho (fun k hk=>hne k hk),hne,hd,h.cur.exc (T:=fun k=>k=b13) hS (fun k hk=>by omega),exc_set h.ex (.inl (by show w.heap.size≤b13;omega)) _⟩
theorem ly_init {bc m:Nat} {w w2:World} {i:Int} {a2:Option Addr} {c2:Nat} (hbz:bc<w.heap.size) (h:Cur bc m w) (hi0:0≤i) (hi:i≤12)
  (ho:NdsOwn w2 (w.alloc (.cells #[.slice none 0 0] 27)).heap.size (.slice a2 [(⟨1,i,ByteArray.empty⟩:Nd)].length c2) [⟨1,i,ByteArray.empty⟩]) (hb:Below (w.alloc (.cells #[.slice none 0 0] 27)).heap.size (w.alloc (.cells #[.slice none 0 0] 27)) w2) :
  LySt bc m 1 w w2.heap.size (w2.alloc (.cells #[.slice a2 1 c2] 27)) (.slice a2 1 c2) [⟨1,i,ByteArray.empty⟩]:=by
 have hs:=hb.size
 simp only [World.size_alloc] at hs ho
 have hz:w.heap.size<w2.heap.size:=by omega
 have q0:=hb.cell (p:=⟨w.heap.size,0,none⟩) (by simp)
 have qf:=hb.frozen (p:=⟨w.heap.size,0,none⟩) (by simp)
 simp [go_sem] at q0 qf
 have hB:Below w.heap.size w (w2.alloc (.cells #[.slice a2 1 c2] 27)):=((alloc_below w _).trans (hb.mono (by simp))).alloc (by omega) _
 refine ⟨by go_simp,by go_simp,hz,by go_simp,by go_simp,NdsOwn.keep (alloc_below _ _) ho,fun k hk e=>?_,Dn.leaf (.inr ⟨by simp,by simp,by simp;omega,by simp;omega⟩),h.keep hB,(Exc.refl _ _).below hB⟩
 have:=(World.ownsRow.lt ho k hk).2
 omega
theorem LySt.mono {bc m m' k k':Nat} {w:World} {b13:Nat} {wr:World} {v:Value} {ns:List Nd} (h:LySt bc m k w b13 wr v ns) (hm:m≤m') (hk:k≤k'):LySt bc m' k' w b13 wr v ns :=
 ⟨h.r0,h.rf,h.lt,h.t0,h.tf,h.own,h.ne,h.dn.mono hk,h.cur.mono hm,h.ex⟩
theorem lf_box {bc B:Nat} {w4 w6:World} {lb lc:Nat} {n:Nd} (hbc:bc<w4.heap.size) (lown:NdsOwn w4 B (.slice (some ⟨lb,0,none⟩) 1 lc) [n]) (hB:bc<B) (hE:Exc (fun k=>k=bc) (w4.alloc (.cells #[.slice (some ⟨lb,0,none⟩) 1 lc] 27)) w6) :
  w6.cell? ⟨w4.heap.size,0,none⟩=some (.slice (some ⟨lb,0,none⟩) 1 lc)∧NdsOwn w6 B (.slice (some ⟨lb,0,none⟩) 1 lc) [n]∧w4.heap.size<w6.heap.size:=by
 have hs:=hE.size
 simp only [World.size_alloc] at hs
 have hne:¬ w4.heap.size=bc:=by omega
 refine ⟨(hE.cell.1 _ _ (by simp) hne).trans (by simp [go_sem]),owns_exc hE (NdsOwn.keep (alloc_below _ _) lown) (fun k hk e=>?_),by omega⟩
 have:=(World.ownsRow.lt lown k hk).1
 have:k=bc:=e
 omega
theorem lay_len (f b:Int) (ns:List Nd):layL f ns b=ns∨ns.length<(layL f ns b).length:=by
 unfold layL layB layF
 split <;> split <;> simp
 all_goals omega
theorem lay_own {B:Nat} {w7 w8:World} {v v8:Value} {ns:List Nd} {f b:Int} (h:NdsOwn w7 B v ns) (hb:Below w7.heap.size w7 w8) (hB:B≤w7.heap.size) (hn:NdsAt w8 v8 (layL f ns b)) (ho:v8=v∨NdsOwn w8 w7.heap.size v8 (layL f ns b)) :
  NdsOwn w8 B v8 (layL f ns b):=by
 rcases ho with rfl|ho
 ·rcases lay_len f b ns with e|e
  ·rw [e];exact NdsOwn.keep hb h
  ·obtain ⟨a,c,e1⟩:=h.slice
   obtain ⟨a',c',e2⟩:=hn.slice
   rw [e1] at e2
   simp at e2
   omega
 ·exact NdsOwn.mono hB ho
theorem nd1 {w:World} {B:Nat} {v:Value} {n:Nd} (h:NdsOwn w B v [n]):∃ b c,v=.slice (some ⟨b,0,none⟩) 1 c∧B≤b∧b<w.heap.size∧1≤c∧w.cell? ⟨b,0,none⟩=some (.int .i64 n.kind)∧w.cell? ⟨b,0+1,none⟩=some (.int .i64 n.value)∧w.cell? ⟨b,0+2,none⟩=some (.string n.name):=by
 obtain ⟨a,c,rfl,hc,hat⟩:=h.at
 obtain ⟨b,o,rfl,_,c0,c1,c2⟩:=hat 0 (by simp)
 have hl:=World.ownsRow.lt h b rfl
 have ho:o=0:=by
  rcases h.2 with ⟨h',_⟩|⟨g',cap',cur,h',_⟩
  ·simp at h'
  ·simp at h';exact h'.1.2
 subst ho
 exact ⟨b,c,rfl,hl.1,hl.2,hc,c0,c1,c2⟩
theorem kindW_small (k:Int):0≤(kindW k).1∧(kindW k).1≤2∧0≤(kindW k).2∧(kindW k).2≤2:=by
 unfold kindW
 repeat' split
 all_goals simp
theorem tmArity_leaf (k x:Int) (w:World) (h2:2≤k) :
  Calls Tryz.prog 134 #[.agg #[.int .i64 k,.int .i64 x,.string ByteArray.empty]] w fun e w'=>∃ A B:Int,e=.returned (.tuple #[.int .i64 A,.int .i64 B])∧0≤A∧A≤2∧0≤B∧B≤2∧Hid ((A,B)=kindW k)∧Below w.heap.size w w':=by
 refine (tmArity_any ⟨k,x,ByteArray.empty⟩ w).mono ?_
 rintro e w' ⟨rfl,hb⟩
 obtain ⟨k1,k2,k3,k4⟩:=kindW_small k
 have he:arityW ⟨k,x,ByteArray.empty⟩=kindW k:=by unfold arityW;rw [if_neg (by simp;omega)]
 rw [he]
 exact ⟨_,_,rfl,k1,k2,k3,k4,Lib.hid rfl,hb⟩
theorem ly_next {bc m k B:Nat} {w:World} {b13:Nat} {w9 w10:World} {v vb v10:Value} {ns ys zs:List Nd} (hbz:bc<w.heap.size) (st:LySt bc m k w b13 w9 v ns) (own:NdsOwn w9 B vb ys) (dn:Dn 5 ys) (hB:b13<B∧w.heap.size<B)
  (hor:(v10=vb∧zs=ys)∨(zs=ns ++ ys ++ [⟨15,0,ByteArray.empty⟩]∧NdsOwn w10 w9.heap.size v10 zs)) (hc:Cur bc (m+2) w10) (hx:Exc (fun k=>k=bc) w9 w10) :
  LySt bc (m+2) k w b13 w10 v ns∧NdsOwn w10 (w.heap.size+1) v10 zs∧(∀ k,v10.ownBlock=some k → k ≠ b13)∧Dn (k+6) zs:=by
 have h13:=cell_lt st.t0
 have h0:=cell_lt st.r0
 refine ⟨st.cur' hx hbz hc,?_⟩
 rcases hor with ⟨rfl,rfl⟩|⟨rfl,ho⟩
 ·refine ⟨NdsOwn.mono (by omega) (owns_exc hx own fun j hj e=>?_),fun j hj=>?_,dn.mono (by omega)⟩
  ·have:=(World.ownsRow.lt own j hj).1
   have:j=bc:=e
   omega
  ·have:=(World.ownsRow.lt own j hj).1
   omega
 ·refine ⟨NdsOwn.mono (by omega) ho,fun j hj=>?_,(Dn.bin 15 (.inl rfl) st.dn dn).mono (by omega)⟩
  have:=(World.ownsRow.lt ho j hj).1
  omega
def LyP (bc m:Nat) (w:World) (e:Ending) (w':World):Prop:=∃ v' ns,e=.returned (.agg #[v'])∧Dn 100 ns∧NdsOwn w' (w.heap.size+1) v' ns∧Cur bc m w'∧Exc (fun k=>k=bc) w w'
end Go.Proofs.YtikgblkfmpecfaaGreatDoor
/-
  The draws: the leaf of layers' second loop, in its box. Own work.
-/
namespace Go.Proofs.YtikgblkfmpecfaaGreatDoor
open Go.RowKit
def BxSt (bc m k:Nat) (w:World) (b13 tb:Nat) (wc:World) (v:Value) (ns:List Nd) (lk:Int) (lb lc:Nat):Prop :=
 LySt bc m k w b13 wc v ns∧b13<tb∧wc.cell? ⟨tb,0,none⟩=some (.slice (some ⟨lb,0,none⟩) 1 lc)∧wc.frozen? ⟨tb,0,none⟩=false ∧
  ∃ B,NdsOwn wc B (.slice (some ⟨lb,0,none⟩) 1 lc) [⟨lk,0,ByteArray.empty⟩]∧b13<B∧lb ≠ tb
theorem BxSt.cur' {bc m m' k b13 tb lb lc:Nat} {w wc w2:World} {v:Value} {ns:List Nd} {lk:Int} (h:BxSt bc m k w b13 tb wc v ns lk lb lc) (hE:Exc (fun k=>k=bc) wc w2) (hbz:bc<w.heap.size) (hc:Cur bc m' w2):BxSt bc m' k w b13 tb w2 v ns lk lb lc:=by
 obtain ⟨st,htb,c0,cf,B,ho,hB,hne⟩:=h
 have hl:=st.lt
 have hn:¬ tb=bc:=by omega
 refine ⟨st.cur' hE hbz hc,htb,(hE.cell.1 _ _ (cell_lt c0) hn).trans c0,(hE.cell.2 _ _ (cell_lt c0) hn).trans cf,B,owns_exc hE ho (fun j hj e=>?_),hB,hne⟩
 have:=(World.ownsRow.lt ho j hj).1
 have:j=bc:=e
 omega
theorem BxSt.keep {bc m k b13 tb lb lc:Nat} {w wc w2:World} {v:Value} {ns:List Nd} {lk:Int} (h:BxSt bc m k w b13 tb wc v ns lk lb lc) (hb:Below wc.heap.size wc w2) (hbz:bc<w.heap.size):BxSt bc m k w b13 tb w2 v ns lk lb lc :=
 h.cur' ((Exc.refl _ _).below hb) hbz (h.1.cur.keep hb)
theorem bx_new {bc m k b13 B lb lc:Nat} {w wc:World} {v:Value} {ns:List Nd} {lk:Int} (h:LySt bc m k w b13 wc v ns) (hbz:bc<w.heap.size) (ho:NdsOwn wc B (.slice (some ⟨lb,0,none⟩) 1 lc) [⟨lk,0,ByteArray.empty⟩]) (hB:b13<B) :
  BxSt bc m k w b13 wc.heap.size (wc.alloc (.cells #[.slice (some ⟨lb,0,none⟩) 1 lc] 27)) v ns lk lb lc:=by
 have h13:=cell_lt h.t0
 have hl:=(World.ownsRow.lt ho lb rfl).2
 exact ⟨h.keep (alloc_below _ _) hbz,h13,by simp [go_sem],by simp [go_sem],B,NdsOwn.keep (alloc_below _ _) ho,hB,by omega⟩
theorem LySt.other {bc m k b13 tb:Nat} {w wc:World} {v u:Value} {ns:List Nd} (h:LySt bc m k w b13 wc v ns) (hbz:bc<w.heap.size) (ht:b13<tb) (hv:∀ j,v.ownBlock=some j → j ≠ tb):LySt bc m k w b13 (wc.setCell ⟨tb,0,none⟩ u) v ns:=by
 have hS:Exc (fun k=>k=tb) wc (wc.setCell ⟨tb,0,none⟩ u):=exc_set (a:=⟨tb,0,none⟩) (Exc.refl (fun k=>k=tb) _) (.inr rfl) _
 have h13:=cell_lt h.t0
 have h0:=cell_lt h.r0
 have hl:=h.lt
 have n1:¬ w.heap.size=tb:=by omega
 have n2:¬ b13=tb:=by omega
 exact ⟨(hS.cell.1 _ _ h0 n1).trans h.r0,(hS.cell.2 _ _ h0 n1).trans h.rf,h.lt,(hS.cell.1 _ _ h13 n2).trans h.t0,(hS.cell.2 _ _ h13 n2).trans h.tf,owns_exc hS h.own (fun j hj e=>hv j hj e),h.ne,h.dn,h.cur.exc (T:=fun k=>k=tb) hS (fun k hk=>by omega),exc_set h.ex (.inl (by show w.heap.size≤tb;omega)) _⟩
theorem bx_set {bc m k b13 tb B lb lc lb' lc':Nat} {w wc:World} {v:Value} {ns:List Nd} {lk lk':Int} (h:BxSt bc m k w b13 tb wc v ns lk lb lc) (hbz:bc<w.heap.size) (ho:NdsOwn wc B (.slice (some ⟨lb',0,none⟩) 1 lc') [⟨lk',0,ByteArray.empty⟩]) (hB:b13<B) (hne:lb' ≠ tb) (hv:∀ j,v.ownBlock=some j → j ≠ tb) :
  BxSt bc m k w b13 tb (wc.setCell ⟨tb,0,none⟩ (.slice (some ⟨lb',0,none⟩) 1 lc')) v ns lk' lb' lc':=by
 obtain ⟨st,htb,c0,cf,_⟩:=h
 have hS:Exc (fun k=>k=tb) wc (wc.setCell ⟨tb,0,none⟩ (.slice (some ⟨lb',0,none⟩) 1 lc')):=exc_set (a:=⟨tb,0,none⟩) (Exc.refl (fun k=>k=tb) _) (.inr rfl) _
 refine ⟨st.other hbz htb hv,htb,by go_simp,by go_simp,B,owns_exc hS ho (fun j hj e=>?_),hB,hne⟩
 have:lb'=j:=by simpa [Value.ownBlock] using hj
 have:j=tb:=e
 omega
theorem bx_cells {bc m k b13 tb lb lc:Nat} {w wc:World} {v:Value} {ns:List Nd} {lk:Int} (h:BxSt bc m k w b13 tb wc v ns lk lb lc) :
  wc.cell? ⟨lb,0,none⟩=some (.int .i64 lk)∧wc.cell? ⟨lb,0+1,none⟩=some (.int .i64 0)∧wc.cell? ⟨lb,0+2,none⟩=some (.string ByteArray.empty)∧1≤lc∧lb<wc.heap.size:=by
 obtain ⟨st,htb,c0,cf,B,ho,hB,hne⟩:=h
 obtain ⟨b,c,e,e1,e2,e3,n0,n1,n2⟩:=nd1 ho
 simp at e
 obtain ⟨rfl,rfl⟩:=e
 exact ⟨n0,n1,n2,e3,e2⟩
def Nrr (W o k:Int):Prop:=(W<o → kindW k=(1,2)∨kindW k=(0,1))∧(o<W → kindW k=(1,0)∨kindW k=(2,1))
theorem nums4 (w:World) (a b c d:Int):NumsAt (w.alloc (.cells #[.int .i64 a,.int .i64 b,.int .i64 c,.int .i64 d] 3)) (.slice (some ⟨w.heap.size,0,none⟩) 4 4) [a,b,c,d]:=by
 refine ⟨some ⟨w.heap.size,0,none⟩,4,rfl,by simp,fun i hi=>⟨_,0,rfl,hi,?_⟩⟩
 simp only [List.length_cons,List.length_nil] at hi
 match i,hi with
 | 0,_=>simp [go_sem]
 | 1,_=>simp [go_sem]
 | 2,_=>simp [go_sem]
 | 3,_=>simp [go_sem]
end Go.Proofs.YtikgblkfmpecfaaGreatDoor
