/-
  The program of a circuit, by the program: its closure and its state. Own work.
-/
import Derived.Test.YtbljmfcifljkaaaGreatDoorXBD
import Derived.Test.YtbljmfcifljkaaaGreatDoorXAX
import Derived.Test.YtbljmfcifljkaaaGreatDoorXAS
import Derived.Test.YtbljmfcifljkaaaGreatDoorXAK
import Derived.Test.YtbljmfcifljkaaaGreatDoorXAF
set_option linter.all false
set_option maxRecDepth 100000
set_option maxHeartbeats 8000000
namespace Go.Proofs.YtbljmfcifljkaaaGreatDoor
open Go.RowKit
set_option maxRecDepth 100000
set_option maxHeartbeats 2000000
theorem cFree_any (z:Int) (t bl ba:Nat) (vl:Value) (last:List Int) (w:World) (kl:Bk w bl 40 #[vl]) (hl:IntsAt w vl last) (ka:Bk w ba 3 #[.int .i64 t]) (hz:z<last.length) (hn:last.length≤1000) :
  Calls Tryz.prog 152 #[.int .i64 z,.pointer (some ⟨bl,0,none⟩),.pointer (some ⟨ba,0,none⟩)] w fun e w'=>e=.returned (.bool (regP last t z))∧Below w.heap.size w w':=by
 have l0:=kl.cell.1 0
 have lz:=kl.lt
 have a0:=ka.cell.1 0
 have az:=ka.lt
 simp only [List.getElem?_toArray,List.getElem?_cons_zero] at l0 a0
 obtain ⟨la,lc,rfl⟩:=hl.slice
 have hb:=Below.refl w.heap.size w
 by_cases h0:z<0
 ·have hd:decide (z<0)=true:=decide_eq_true h0
  have HF:=Lib.hid (show regP last t z=true by unfold regP;rw [hd];rfl)
  clear kl ka hl
  go_enter Tryz.func152,Tryz.ntmps152
  go_wp2_with fail
  go_quiet (fail)
  have hb2:=below_drewN hb nq
  go_wp2
  go_ret
  exact ⟨by rw [HF.out];rfl,hb2⟩
 ·have hd:decide (z<0)=false:=decide_eq_false h0
  obtain ⟨n,rfl⟩:∃ n:Nat,z=n:=⟨z.toNat,by omega⟩
  have hnl:n<last.length:=by omega
  obtain ⟨qb,qo,rfl,d0⟩:=ints_cell hl hnl
  have dz:=cell_lt d0
  have HF:=Lib.hid (show regP last t (n:Int)=decide (last[n]≤(t:Int)) by
   unfold regP
   rw [hd,Int.toNat_natCast,List.getD_eq_getElem?_getD,List.getElem?_eq_getElem hnl]
   rfl)
  generalize last[n]=x at d0 HF
  clear kl ka hl
  go_enter Tryz.func152,Tryz.ntmps152
  go_wp2_with fail
  go_quiet (fail)
  have hb2:=below_drewN hb nq
  go_wp2
  go_ret
  exact ⟨by rw [HF.out];rfl,hb2⟩
structure CmV (w:World) (vl:Value) (bm n:Nat) (i0 i1 i2 r:Int) (wr:World) (vh vp:Value) (H R ks:List Int) (P:List InI):Prop where
 kl:Bk wr w.heap.size 40 #[vl]
 kx:Bk wr (w.heap.size+1) 68 #[.int .i64 i0,.int .i64 i1,.int .i64 i2,.int .i64 r,vp]
 rh:Rw wr w.heap.size vh H
 mp:MnB wr bm n R ks
 mb:w.heap.size≤bm
 rp:IRw wr w.heap.size vp P
 bel:Below w.heap.size w wr
section
variable {w:World} {vl:Value} {bm n:Nat} {i0 i1 i2 r:Int} {wr w':World} {vh vp:Value} {H R ks:List Int} {P:List InI}
theorem CmV.keep (h:CmV w vl bm n i0 i1 i2 r wr vh vp H R ks P) (hb:Below wr.heap.size wr w'):CmV w vl bm n i0 i1 i2 r w' vh vp H R ks P :=
 ⟨h.kl.keep hb,h.kx.keep hb,h.rh.keep hb,h.mp.keep hb,h.mb,h.rp.keep hb,h.bel.trans (hb.mono h.bel.size)⟩
theorem CmV.growP {vp':Value} {P':List InI} (h:CmV w vl bm n i0 i1 i2 r wr vh vp H R ks P) (hg:wr.grownBy w' vp.ownBlock) (q:IRw w' w.heap.size vp' P') :
  Bk w' w.heap.size 40 #[vl]∧Bk w' (w.heap.size+1) 68 #[.int .i64 i0,.int .i64 i1,.int .i64 i2,.int .i64 r,vp]∧Rw w' w.heap.size vh H∧MnB w' bm n R ks∧Below w.heap.size w w':=by
 obtain ⟨D,hown,hm⟩:=h.mp
 refine ⟨h.kl.grown hg (row_blk_ne h.rp h.kl (by decide)),h.kx.grown hg (row_blk_ne h.rp h.kx (by decide)),h.rh.grown hg (fun k hk e=>owns_ne h.rp h.rh (by decide) k e hk),⟨D,?_,hm⟩,h.bel.grown hg h.bel.size (fun j hj=>(World.ownsRow.lt h.rp j hj).1)⟩
 have hne:=own_ne_map h.rp hown
 obtain ⟨es,clock,h1,r⟩:=hown
 exact ⟨es,clock,(hg.block bm (Array.getElem?_eq_some_iff.1 h1).1 (fun e=>hne e.symm)).trans h1,r⟩
theorem MnB.set {b:Nat} (h:MnB wr b n R ks) (a:Addr) (v:Value) (hne:b ≠ a.block):MnB (wr.setCell a v) b n R ks:=by
 obtain ⟨D,⟨es,clock,h1,r⟩,hm⟩:=h
 exact ⟨D,⟨es,clock,(Below.heap_setCell _ _ _ _ hne).trans h1,r⟩,hm⟩
theorem MnB.ne_bk {b:Nat} {t:TypeId} {cs:Array Value} (h:MnB wr bm n R ks) (k:Bk wr b t cs):b ≠ bm:=by obtain ⟨D,ho,_⟩:=h;exact Bk.ne_map k ho
theorem MnB.ne_row {B e sz k:Nat} {v:Value} {xs:List Value} (h:MnB wr bm n R ks) (q:wr.ownsRow B e sz v k xs):v.ownBlock ≠ some bm:=by obtain ⟨D,ho,_⟩:=h;exact own_ne_map q ho
theorem CmV.putP {vp':Value} {P':List InI} (h:CmV w vl bm n i0 i1 i2 r wr vh vp H R ks P) (hg:wr.grownBy w' vp.ownBlock) (q:IRw w' w.heap.size vp' P'):CmV w vl bm n i0 i1 i2 r (w'.setCell ⟨w.heap.size+1,4,none⟩ vp') vh vp' H R ks P':=by
 obtain ⟨kl,kx,rh,mp,bel⟩:=h.growP hg q
 exact ⟨kl.other ⟨w.heap.size+1,4,none⟩ _ (by simp),by simpa using kx.set 4 vp',owns_other rh _ _ (row_blk_ne rh kx (by decide)),mp.set _ _ (fun e=>mp.ne_bk kx e.symm),h.mb,owns_other q _ _ (row_blk_ne q kx (by decide)),bel.setCell (by simp) _⟩
theorem CmV.mk4 {vp':Value} {P':List InI} (kl:Bk wr w.heap.size 40 #[vl]) (kx:Bk wr (w.heap.size+1) 68 #[.int .i64 i0,.int .i64 i1,.int .i64 i2,.int .i64 r,vp]) (rh:Rw wr w.heap.size vh H) (mp:MnB wr bm n R ks) (mb:w.heap.size≤bm)
  (q:IRw wr w.heap.size vp' P') (bel:Below w.heap.size w wr):CmV w vl bm n i0 i1 i2 r (wr.setCell ⟨w.heap.size+1,4,none⟩ vp') vh vp' H R ks P' :=
 ⟨kl.other ⟨w.heap.size+1,4,none⟩ _ (by simp),by simpa using kx.set 4 vp',owns_other rh _ _ (row_blk_ne rh kx (by decide)),mp.set _ _ (fun e=>mp.ne_bk kx e.symm),mb,owns_other q _ _ (row_blk_ne q kx (by decide)),bel.setCell (by simp) _⟩
theorem CmV.setH {q m c:Nat} (h:CmV w vl bm n i0 i1 i2 r wr (.slice (some ⟨q,0,none⟩) m c) vp H R ks P) (hm:H.length=m) {j:Nat} (hj:j<m) (z:Int):CmV w vl bm n i0 i1 i2 r (wr.setCell ⟨q,j,none⟩ (.int .i64 z)) (.slice (some ⟨q,0,none⟩) m c) vp (H.set j z) R ks P:=by
 obtain ⟨q',c',e,hg,hBg⟩:=h.rh.block (by omega)
 simp only [Value.slice.injEq,Option.some.injEq,Addr.mk.injEq,and_true] at e
 obtain ⟨rfl,-,-⟩:=e
 have hset:=(Rw.put h.rh hm hj z).2
 have hne:∀ {b:Nat} {t:TypeId} {cs:Array Value},Bk wr b t cs → 3 ≠ t → b ≠ q:=fun hb ht e=>row_blk_ne h.rh hb ht (by simp [Value.ownBlock,e])
 exact ⟨h.kl.other ⟨q,j,none⟩ _ (hne h.kl (by decide)),h.kx.other ⟨q,j,none⟩ _ (hne h.kx (by decide)),hset,h.mp.set _ _ (fun e=>h.mp.ne_row h.rh (by simp [Value.ownBlock];exact e.symm)),h.mb,owns_other h.rp _ _ (fun e=>owns_ne h.rh h.rp (by decide) q (by simp [Value.ownBlock]) e),h.bel.setCell hBg _⟩
theorem CmV.putM {n':Nat} {R' ks':List Int} (h:CmV w vl bm n i0 i1 i2 r wr vh vp H R ks P) (hg:wr.grownBy w' (some bm)) (hm:MnB w' bm n' R' ks'):CmV w vl bm n' i0 i1 i2 r w' vh vp H R' ks' P :=
 ⟨h.kl.grown hg (fun e=>h.mp.ne_bk h.kl (by simpa using e.symm)),h.kx.grown hg (fun e=>h.mp.ne_bk h.kx (by simpa using e.symm)),h.rh.grown hg (fun k hk e=>h.mp.ne_row h.rh (hk.trans e.symm)),hm,h.mb,owns_grown h.rp hg (fun k hk e=>h.mp.ne_row h.rp (hk.trans e.symm)),h.bel.grown hg h.bel.size (fun j hj=>by simp at hj;have:=h.mb;omega)⟩
theorem CmV.setN (h:CmV w vl bm n i0 i1 i2 r wr vh vp H R ks P) (z:Int):CmV w vl bm n i0 i1 i2 z (wr.setCell ⟨w.heap.size+1,3,none⟩ (.int .i64 z)) vh vp H R ks P :=
 ⟨h.kl.other ⟨w.heap.size+1,3,none⟩ _ (by simp),by simpa using h.kx.set 3 (.int .i64 z),owns_other h.rh _ _ (row_blk_ne h.rh h.kx (by decide)),h.mp.set _ _ (fun e=>h.mp.ne_bk h.kx e.symm),h.mb,owns_other h.rp _ _ (row_blk_ne h.rp h.kx (by decide)),h.bel.setCell (by simp) _⟩
theorem hold_max {H:List Int} {r:Nat} (h:r≤H.length):max (H.length:Int) ((r:Int)+1)=((hold1 H r).length:Int):=by
 have:=hold1_len H r h
 rw [this.2.2]
 split <;> omega
end
end Go.Proofs.YtbljmfcifljkaaaGreatDoor
/-
  Right programs, by the reference. Own work.
-/
namespace Go.Proofs.YtbljmfcifljkaaaGreatDoor
open Go.RowKit
set_option maxRecDepth 100000
set_option maxHeartbeats 2000000
theorem cmInstr_yes (p inp out cells regs:Int) (vc:Value) (i:InI) (w:World) (h:insB p inp out cells regs i=true) (hp:0≤p∧p≤1000000) (h1:0≤inp∧inp≤1000) (h2:0≤out∧out≤1000) (h3:0≤cells∧cells≤1000) (h4:0≤regs∧regs≤1000) :
  Calls Tryz.prog 209 #[.int .i64 p,.agg #[.int .i64 inp,.int .i64 out,.int .i64 cells,.int .i64 regs,vc],.agg #[.int .i64 i.op,.int .i64 i.r,.int .i64 i.a,.int .i64 i.b,.int .i64 i.value]] w (FlP true w):=by
 obtain ⟨op,r,a,b,v⟩:=i
 have hA1:=alloc_below w (.cells #[.int .i64 inp,.int .i64 out,.int .i64 cells,.int .i64 regs,vc] 68)
 have hA2:=alloc_below (w.alloc (.cells #[.int .i64 inp,.int .i64 out,.int .i64 cells,.int .i64 regs,vc] 68)) (.cells #[.int .i64 op,.int .i64 r,.int .i64 a,.int .i64 b,.int .i64 v] 206)
 have kX:=(Bk.new w 68 #[.int .i64 inp,.int .i64 out,.int .i64 cells,.int .i64 regs,vc]).keep hA2
 have kI:=Bk.new (w.alloc (.cells #[.int .i64 inp,.int .i64 out,.int .i64 cells,.int .i64 regs,vc] 68)) 206 #[.int .i64 op,.int .i64 r,.int .i64 a,.int .i64 b,.int .i64 v]
 rw [World.size_alloc] at kI
 have hB:=hA1.trans (hA2.mono hA1.size)
 have w1:IntKind.i64.wrap (regs - 1)=regs - 1:=IntWalk.i64_in _ (by omega)
 have w2:IntKind.i64.wrap (inp - 1)=inp - 1:=IntWalk.i64_in _ (by omega)
 have w3:IntKind.i64.wrap (out - 1)=out - 1:=IntWalk.i64_in _ (by omega)
 have w4:IntKind.i64.wrap (cells - 1)=cells - 1:=IntWalk.i64_in _ (by omega)
 have w5:IntKind.i64.wrap (p - 1)=p - 1:=IntWalk.i64_in _ (by omega)
 have hop:op=1∨op=2∨op=3∨op=4∨op=5∨op=6∨op=7:=by
  unfold insB at h
  simp only at h
  repeat' split at h
  all_goals first|omega|cases h
 obtain ⟨x0,-,xz⟩:=kX.cell
 have x1:=x0 1
 have x2:=x0 2
 have x3:=x0 3
 have x0:=x0 0
 obtain ⟨i0,-,iz⟩:=kI.cell
 have i1:=i0 1
 have i2:=i0 2
 have i3:=i0 3
 have i4:=i0 4
 have i0:=i0 0
 simp only [List.getElem?_toArray,List.getElem?_cons_zero,List.getElem?_cons_succ] at x0 x1 x2 x3 i0 i1 i2 i3 i4
 unfold insB at h
 simp only at h
 clear hA1 hA2 kX kI
 rcases hop with rfl|rfl|rfl|rfl|rfl|rfl|rfl
 ·simp at h
  obtain ⟨e1,e2,e3,e4⟩:=h
  subst e3 e4
  have HQ:=Lib.hid (fun (x:Int) (u:World)=>(l1In_any x 0 (regs - 1) u).mono (R':=fun e w'=>e=.returned (.bool (inB x 0 (regs - 1)))∧∃ m,w'=u.drewN m) (fun _ _ hh=>⟨hh.1,0,hh.2.symm⟩))
  go_enter Tryz.func209,Tryz.ntmps209
  go_wp2_with fail
  generalize ((w.alloc (.cells #[.int .i64 inp,.int .i64 out,.int .i64 cells,.int .i64 regs,vc] 68)).alloc (.cells #[.int .i64 1,.int .i64 r,.int .i64 a,.int .i64 0,.int .i64 0] 206))=u0 at *
  go_quiet ((go_at_call 80;refine Calls.quiet_of (HQ.out _ _)))
  have hb:=below_drewN hB nq
  rw [e1]
  go_wp2_with fail
  refine (l1In_any _ _ _ _).mono ?_
  rintro e' w2 ⟨rfl,rfl⟩
  rw [e2]
  go_wp2
  go_ret
  exact ⟨rfl,hb⟩
 ·simp at h
  obtain ⟨e1,e2,e3,e4⟩:=h
  subst e2 e3 e4
  have HQ:=Lib.hid (fun (x:Int) (u:World)=>(l1In_any x 0 (regs - 1) u).mono (R':=fun e w'=>e=.returned (.bool (inB x 0 (regs - 1)))∧∃ m,w'=u.drewN m) (fun _ _ hh=>⟨hh.1,0,hh.2.symm⟩))
  go_enter Tryz.func209,Tryz.ntmps209
  go_wp2_with fail
  generalize ((w.alloc (.cells #[.int .i64 inp,.int .i64 out,.int .i64 cells,.int .i64 regs,vc] 68)).alloc (.cells #[.int .i64 2,.int .i64 r,.int .i64 0,.int .i64 0,.int .i64 0] 206))=u0 at *
  go_quiet ((go_at_call 80;refine Calls.quiet_of (HQ.out _ _)))
  have hb:=below_drewN hB nq
  rw [e1]
  go_wp2_with fail
  go_ret
  exact ⟨rfl,hb⟩
 ·simp at h
  obtain ⟨e1,e2,e3,e4⟩:=h
  subst e4
  have HQ:=Lib.hid (fun (x:Int) (u:World)=>(l1In_any x 0 (regs - 1) u).mono (R':=fun e w'=>e=.returned (.bool (inB x 0 (regs - 1)))∧∃ m,w'=u.drewN m) (fun _ _ hh=>⟨hh.1,0,hh.2.symm⟩))
  go_enter Tryz.func209,Tryz.ntmps209
  go_wp2_with fail
  generalize ((w.alloc (.cells #[.int .i64 inp,.int .i64 out,.int .i64 cells,.int .i64 regs,vc] 68)).alloc (.cells #[.int .i64 3,.int .i64 r,.int .i64 a,.int .i64 b,.int .i64 0] 206))=u0 at *
  go_quiet ((go_at_call 80;refine Calls.quiet_of (HQ.out _ _)))
  have hb:=below_drewN hB nq
  rw [e1]
  rw [e2]
  rw [e3]
  go_wp2_with fail
  go_ret
  exact ⟨rfl,hb⟩
 ·simp at h
  obtain ⟨e1,e2,e3,e4⟩:=h
  subst e3
  have HQ:=Lib.hid (fun (x:Int) (u:World)=>(l1In_any x 0 (regs - 1) u).mono (R':=fun e w'=>e=.returned (.bool (inB x 0 (regs - 1)))∧∃ m,w'=u.drewN m) (fun _ _ hh=>⟨hh.1,0,hh.2.symm⟩))
  go_enter Tryz.func209,Tryz.ntmps209
  go_wp2_with fail
  generalize ((w.alloc (.cells #[.int .i64 inp,.int .i64 out,.int .i64 cells,.int .i64 regs,vc] 68)).alloc (.cells #[.int .i64 4,.int .i64 r,.int .i64 a,.int .i64 0,.int .i64 v] 206))=u0 at *
  go_quiet ((go_at_call 80;refine Calls.quiet_of (HQ.out _ _)))
  have hb:=below_drewN hB nq
  rw [e1]
  rw [e2]
  go_wp2_with fail
  refine (l1In_any _ _ _ _).mono ?_
  rintro e' w2 ⟨rfl,rfl⟩
  rw [e4]
  go_wp2
  go_ret
  exact ⟨rfl,hb⟩
 ·simp at h
  obtain ⟨e1,e2,e3,e4⟩:=h
  subst e3 e4
  have HQ:=Lib.hid (fun (x:Int) (u:World)=>(l1In_any x 0 (regs - 1) u).mono (R':=fun e w'=>e=.returned (.bool (inB x 0 (regs - 1)))∧∃ m,w'=u.drewN m) (fun _ _ hh=>⟨hh.1,0,hh.2.symm⟩))
  go_enter Tryz.func209,Tryz.ntmps209
  go_wp2_with fail
  generalize ((w.alloc (.cells #[.int .i64 inp,.int .i64 out,.int .i64 cells,.int .i64 regs,vc] 68)).alloc (.cells #[.int .i64 5,.int .i64 r,.int .i64 a,.int .i64 0,.int .i64 0] 206))=u0 at *
  go_quiet ((go_at_call 80;refine Calls.quiet_of (HQ.out _ _)))
  have hb:=below_drewN hB nq
  rw [e1]
  go_wp2_with fail
  refine (l1In_any _ _ _ _).mono ?_
  rintro e' w2 ⟨rfl,rfl⟩
  rw [e2]
  go_wp2
  go_ret
  exact ⟨rfl,hb⟩
 ·simp at h
  obtain ⟨e1,e2,e3,e4⟩:=h
  subst e3 e4
  have HQ:=Lib.hid (fun (x:Int) (u:World)=>(l1In_any x 0 (regs - 1) u).mono (R':=fun e w'=>e=.returned (.bool (inB x 0 (regs - 1)))∧∃ m,w'=u.drewN m) (fun _ _ hh=>⟨hh.1,0,hh.2.symm⟩))
  go_enter Tryz.func209,Tryz.ntmps209
  go_wp2_with fail
  generalize ((w.alloc (.cells #[.int .i64 inp,.int .i64 out,.int .i64 cells,.int .i64 regs,vc] 68)).alloc (.cells #[.int .i64 6,.int .i64 r,.int .i64 a,.int .i64 0,.int .i64 0] 206))=u0 at *
  go_quiet ((go_at_call 80;refine Calls.quiet_of (HQ.out _ _)))
  have hb:=below_drewN hB nq
  rw [e1]
  go_wp2_with fail
  refine (l1In_any _ _ _ _).mono ?_
  rintro e' w2 ⟨rfl,rfl⟩
  rw [e2]
  go_wp2
  go_ret
  exact ⟨rfl,hb⟩
 ·simp at h
  obtain ⟨e1,e2,e3,e4⟩:=h
  subst e3 e4
  have HQ:=Lib.hid (fun (x:Int) (u:World)=>(l1In_any x 0 (regs - 1) u).mono (R':=fun e w'=>e=.returned (.bool (inB x 0 (regs - 1)))∧∃ m,w'=u.drewN m) (fun _ _ hh=>⟨hh.1,0,hh.2.symm⟩))
  go_enter Tryz.func209,Tryz.ntmps209
  go_wp2_with fail
  generalize ((w.alloc (.cells #[.int .i64 inp,.int .i64 out,.int .i64 cells,.int .i64 regs,vc] 68)).alloc (.cells #[.int .i64 7,.int .i64 r,.int .i64 a,.int .i64 0,.int .i64 0] 206))=u0 at *
  go_quiet ((go_at_call 80;refine Calls.quiet_of (HQ.out _ _)))
  have hb:=below_drewN hB nq
  rw [e1]
  go_wp2_with fail
  refine (l1In_any _ _ _ _).mono ?_
  rintro e' w2 ⟨rfl,rfl⟩
  rw [e2]
  go_wp2
  go_ret
  exact ⟨rfl,hb⟩
theorem cmGood_any (p:Int) (a:Option Addr) (cap:Nat) (x:PgI) (w:World) (hI:InsAt w (.slice a x.code.length cap) x.code) (hp:primeB p=true) (h1:inB x.inputs 0 8=true) (h2:inB x.outputs 0 8=true) (h3:inB x.cells 0 40=true) (h4:0≤x.regs∧x.regs≤1000) (h5:x.code.length≤120)
  (h6:x.code.all (insB p x.inputs x.outputs x.cells x.regs)=true) :
  Calls Tryz.prog 140 #[.int .i64 p,.agg #[.int .i64 x.inputs,.int .i64 x.outputs,.int .i64 x.cells,.int .i64 x.regs,.slice a x.code.length cap]] w (FlP (inB x.regs 0 16) w):=by
 have hA:=alloc_below w (.cells #[.int .i64 x.inputs,.int .i64 x.outputs,.int .i64 x.cells,.int .i64 x.regs,.slice a x.code.length cap] 68)
 have kC:=Bk.new w 68 #[.int .i64 x.inputs,.int .i64 x.outputs,.int .i64 x.cells,.int .i64 x.regs,.slice a x.code.length cap]
 have hI1:=hI.keep hA
 have hpb:=primeB_le hp
 have r1:0≤x.inputs∧x.inputs≤1000:=by simp only [inB,Bool.and_eq_true,decide_eq_true_eq] at h1;omega
 have r2:0≤x.outputs∧x.outputs≤1000:=by simp only [inB,Bool.and_eq_true,decide_eq_true_eq] at h2;omega
 have r3:0≤x.cells∧x.cells≤1000:=by simp only [inB,Bool.and_eq_true,decide_eq_true_eq] at h3;omega
 have r0:0≤p∧p≤1000000:=by
  unfold primeB at hp
  simp only [Bool.and_eq_true,decide_eq_true_eq] at hp
  omega
 obtain ⟨inp,out,cel,regs,code⟩:=x
 simp only at *
 have HALL:=Lib.hid (fun i hi=>List.all_eq_true.1 h6 i hi)
 have HH:=Lib.hid (And.intro r0 (And.intro r1 (And.intro r2 (And.intro r3 h4))))
 clear hI h6
 go_enter Tryz.func140,Tryz.ntmps140
 go_wp2_with fail
 refine (fdGood_any p _).mono ?_
 rintro e w1 ⟨rfl,hb1⟩
 rw [hp]
 have kC1:=kC.keep hb1
 have hI2:=hI1.keep hb1
 have hB:=hA.trans (hb1.mono hA.size)
 obtain ⟨x0,xf,xz⟩:=kC1.cell
 have x1:=x0 1
 have x2:=x0 2
 have x3:=x0 3
 have x4:=x0 4
 have x0:=x0 0
 simp only [List.getElem?_toArray,List.getElem?_cons_zero,List.getElem?_cons_succ] at x0 x1 x2 x3 x4
 clear hI1 kC hA hb1
 go_wp2_with fail
 refine (l1In_any _ _ _ _).mono ?_
 rintro e w2 ⟨rfl,rfl⟩
 rw [h1]
 go_wp2_with fail
 refine (l1In_any _ _ _ _).mono ?_
 rintro e w2 ⟨rfl,rfl⟩
 rw [h2]
 go_wp2_with fail
 refine (l1In_any _ _ _ _).mono ?_
 rintro e w2 ⟨rfl,rfl⟩
 rw [h3]
 go_wp2_with fail
 refine (l1In_any _ _ _ _).mono ?_
 rintro e w2 ⟨rfl,rfl⟩
 cases hrg:inB regs 0 16 with
 | false =>
  have HRG:=Lib.hid hrg
  clear hrg
  go_wp2
  go_ret
  exact ⟨by rw [HRG.out];rfl,hB⟩
 | true =>
 have HRG:=Lib.hid hrg
 have hgt:¬ (120:Int)<(code.length:Int):=by omega
 clear hrg
 go_wp2_with fail
 obtain ⟨a2,c2,e2,hc2,hat⟩:=hI2
 simp only [Value.slice.injEq,true_and] at e2
 obtain ⟨rfl,rfl⟩:=e2
 go_loopw [43] (fun i wr=>∃ k:Nat,k≤code.length∧i=.int .i64 k∧Below w1.heap.size w1 wr) (fun i _=>code.length - (intOf i).toNat)
 case atStart=>exact ⟨0,Nat.zero_le _,rfl,Below.refl _ _⟩
 case round =>
  obtain ⟨k,hk,rfl,hbel⟩:=hrel
  have y0:=cell_keep hbel x0
  have y1:=cell_keep hbel x1
  have y2:=cell_keep hbel x2
  have y3:=cell_keep hbel x3
  have y4:=cell_keep hbel x4
  have yz:=cell_lt y0
  by_cases hlk:k<code.length
  ·obtain ⟨b,o,rfl,_,hgt⟩:=hat k hlk
   obtain ⟨c0,c1,c2,c3,c4⟩:=hgt.keep hbel
   have hcr:=fun W=>cmInstr_yes p inp out cel regs (.slice (some ⟨b,o,none⟩) code.length cap) code[k] W (HALL.out _ (List.getElem_mem hlk)) HH.out.1 HH.out.2.1 HH.out.2.2.1 HH.out.2.2.2.1 HH.out.2.2.2.2
   generalize code[k]=g at c0 c1 c2 c3 c4 hcr
   have bz:=cell_lt c0
   have hA2:=alloc_below wr (.cells #[.int .i64 g.op,.int .i64 g.r,.int .i64 g.a,.int .i64 g.b,.int .i64 g.value] 206)
   have HCR:=Lib.hid hcr
   have hbel2:=hbel.trans (hA2.mono hbel.size)
   clear hat hgt hcr
   go_wp2_with fail
   refine (HCR.out _).mono ?_
   rintro e w3 ⟨rfl,hb3⟩
   have hbel3:=hbel2.trans (hb3.mono hbel2.size)
   go_wp2
   go_roundw
   case rel=>exact ⟨k+1,by omega,by go_num,hbel3⟩
   case measure=>simp [intOf];omega
  ·obtain rfl:k=code.length:=by omega
   have hBB:=hB.trans (hbel.mono hB.size)
   clear hat
   go_wp2
   go_ret
   exact ⟨by rw [HRG.out];rfl,hBB⟩
end Go.Proofs.YtbljmfcifljkaaaGreatDoor
/-
  The program's test of a circuit. Own work.
-/
namespace Go.Proofs.YtbljmfcifljkaaaGreatDoor
open Go.RowKit
set_option maxRecDepth 100000
set_option maxHeartbeats 2000000
theorem isCircuit_any (p inp:Int) (vg vo:Value) (gs:List GtI) (os:List Int) (w:World) (ht:PrimeTab w) (hg:GtsAt w vg gs) (ho:IntsAt w vo os) (hn:gs.length≤1000000) (hm:os.length≤1000000) :
  Calls Tryz.prog 212 #[.int .i64 p,.agg #[.int .i64 inp,vg,vo]] w (FlP (circB p inp gs os) w):=by
 obtain ⟨a,cap,rfl,hcap⟩:=hg.slice
 obtain ⟨oa,oc,rfl⟩:=ho.slice
 have hA:=alloc_below w (.cells #[.int .i64 inp,.slice a gs.length cap,.slice oa os.length oc] 112)
 have kC:=Bk.new w 112 #[.int .i64 inp,.slice a gs.length cap,.slice oa os.length oc]
 have hg1:=hg.keep hA
 have ho1:=ho.keep hA
 have hF:=isField_any p _ (ht.keep hA)
 clear hg ho
 go_enter Tryz.func212,Tryz.ntmps212
 go_wp2_with fail
 refine hF.mono ?_
 rintro e w1 ⟨rfl,hb1⟩
 have kC1:=kC.keep hb1
 have hg2:=hg1.keep hb1
 have ho2:=ho1.keep hb1
 have hB:=hA.trans (hb1.mono hA.size)
 obtain ⟨x0,xf,xz⟩:=kC1.cell
 have x1:=x0 1
 have x2:=x0 2
 have x0:=x0 0
 simp only [List.getElem?_toArray,List.getElem?_cons_zero,List.getElem?_cons_succ] at x0 x1 x2
 clear hg1 ho1 kC hA hb1 hF
 cases hp:primeB p with
 | false =>
  have HE:Hid (circB p inp gs os=false):=Lib.hid (by unfold circB;rw [hp];rfl)
  clear hp
  go_wp2
  go_ret
  exact ⟨by rw [HE.out];rfl,hB⟩
 | true =>
 go_wp2_with fail
 refine (within_any _ _ _ _).mono ?_
 rintro e w2 ⟨rfl,rfl⟩
 cases hi:inB inp 0 8 with
 | false =>
  have HE:Hid (circB p inp gs os=false):=Lib.hid (by unfold circB;rw [hp,hi];rfl)
  clear hp hi
  go_wp2
  go_ret
  exact ⟨by rw [HE.out];rfl,hB⟩
 | true =>
 go_wp2_with fail
 refine (within_any _ _ _ _).mono ?_
 rintro e w2 ⟨rfl,rfl⟩
 cases hl:inB (gs.length:Int) 1 40 with
 | false =>
  have HE:Hid (circB p inp gs os=false):=Lib.hid (by unfold circB;rw [hp,hi,hl];rfl)
  clear hp hi hl
  go_wp2
  go_ret
  exact ⟨by rw [HE.out];rfl,hB⟩
 | true =>
 by_cases h8:os.length≤8
 rotate_left
 ·have HE:Hid (circB p inp gs os=false):=Lib.hid (by unfold circB;rw [hp,hi,hl,decide_eq_false h8];rfl)
  have hgt:(8:Int)<(os.length:Int):=by omega
  clear hp hi hl
  go_wp2
  go_ret
  exact ⟨by rw [HE.out];rfl,hB⟩
 have hgt:¬ (8:Int)<(os.length:Int):=by omega
 go_wp2_with fail
 refine (areBelow_any _ os _ _ ho2 (by omega) (by omega)).mono ?_
 rintro e w2 ⟨rfl,rfl⟩
 cases ha:allB 0 ((gs.length:Int) - 1) os with
 | false =>
  have HE:Hid (circB p inp gs os=false):=Lib.hid (by unfold circB;rw [hp,hi,hl,decide_eq_true h8,ha];rfl)
  clear hp hi hl ha
  go_wp2
  go_ret
  exact ⟨by rw [HE.out];rfl,hB⟩
 | true =>
 have HC:Hid (circB p inp gs os=(gs.all (gateB p inp gs.length) && decide ((ordC gs).length=(gs.filter cmbB).length))):=Lib.hid (by unfold circB;rw [hp,hi,hl,decide_eq_true h8,ha];rfl)
 have hin:0≤inp∧inp≤8:=by simpa [inB] using hi
 have hnn:1≤gs.length∧gs.length≤40:=by simp only [inB,Bool.and_eq_true,decide_eq_true_eq] at hl;omega
 clear hi hl ha h8 hp
 go_wp2_with fail
 clear hgt
 obtain ⟨a2,c2,e2,hc2,hat⟩:=hg2
 simp only [Value.slice.injEq,true_and] at e2
 obtain ⟨rfl,rfl⟩:=e2
 go_loopw [43] (fun i wr=>∃ k:Nat,k≤gs.length∧i=.int .i64 k∧Below w1.heap.size w1 wr∧∀ j,∀ h:j<gs.length,j<k → gateB p inp gs.length (gs[j]'h)=true) (fun i _=>gs.length - (intOf i).toNat)
 case atStart=>exact ⟨0,Nat.zero_le _,rfl,Below.refl _ _,fun j h1 h2=>by omega⟩
 case round =>
  obtain ⟨k,hk,rfl,hbel,hall⟩:=hrel
  have HALL:=Lib.hid hall
  clear hall
  have y0:=cell_keep hbel x0
  have y1:=cell_keep hbel x1
  have y2:=cell_keep hbel x2
  have yz:=cell_lt y0
  by_cases hlk:k<gs.length
  ·obtain ⟨b,o,rfl,_,hgt⟩:=hat k hlk
   obtain ⟨c0,c1,c2,c3⟩:=hgt.keep hbel
   have hcr:=fun W=>isGate_any p inp (some ⟨b,o,none⟩) gs.length cap (.slice oa os.length oc) gs[k] W (by omega) (by omega)
   have hmem:=List.getElem_mem hlk
   obtain ⟨g,hgk⟩:∃ g,gs[k]=g:=⟨_,rfl⟩
   rw [hgk] at c0 c1 c2 c3 hcr hmem
   have HGK:=Lib.hid hgk
   obtain ⟨kd,ga,gb,gv⟩:=g
   simp only [gtV] at c0 c1 c2 c3 hcr
   have bz:=cell_lt c0
   have hA2:=alloc_below wr (.cells #[.int .i64 kd,.int .i64 ga,.int .i64 gb,.int .i64 gv] 203)
   have HCR:=Lib.hid hcr
   have hbel2:=hbel.trans (hA2.mono hbel.size)
   clear hat hgt hgk hcr
   go_wp2_with fail
   refine (HCR.out _).mono ?_
   rintro e w3 ⟨rfl,hb3⟩
   have hbel3:=hbel2.trans (hb3.mono hbel2.size)
   cases hgb:gateB p inp gs.length ⟨kd,ga,gb,gv⟩ with
   | false =>
    have HE:Hid (circB p inp gs os=false):=Lib.hid (by
     rw [HC.out,List.all_eq_false.2 ⟨_,hmem,by rw [hgb];simp⟩];rfl)
    have hBB:=hB.trans (hbel3.mono hB.size)
    clear hgb hmem
    go_wp2
    go_ret
    exact ⟨by rw [HE.out];rfl,hBB⟩
   | true =>
    have HGB:=Lib.hid hgb
    clear hgb hb3 hA2
    go_wp2
    go_roundw
    case rel=>exact ⟨k+1,by omega,by go_num,hbel3,fun j h1 h2=>by
     rcases Nat.lt_or_ge j k with h|h
     ·exact HALL.out j h1 h
     ·obtain rfl:j=k:=by omega
      rw [HGK.out];exact HGB.out⟩
    case measure=>simp [intOf];omega
  ·obtain rfl:k=gs.length:=by omega
   have hok:∀ g ∈ gs,gateB p inp gs.length g=true:=fun g hg=>by obtain ⟨j,hj,rfl⟩:=List.mem_iff_getElem.1 hg;exact HALL.out j hj hj
   have hgw:GtsAt wr (.slice a gs.length cap) gs:=GtsAt.keep hbel ⟨a,cap,rfl,hcap,hat⟩
   have hnd:∀ g ∈ gs,∀ z ∈ ndsG g,0≤z∧z<gs.length:=fun g hg z hz=>by
    unfold ndsG at hz
    split at hz
    ·exact opsG_in (hok g hg) z hz
    ·simp at hz
   have HO:=Lib.hid (schedule_any inp (.slice a gs.length cap) (.slice oa os.length oc) gs wr hgw (by omega) hnd)
   have HF:Hid (circB p inp gs os=schB gs):=Lib.hid (by
    rw [HC.out,List.all_eq_true.2 hok,Bool.true_and];rfl)
   have hBB:=hB.trans (hbel.mono hB.size)
   clear hat hok hgw hnd
   generalize schB gs=sb at HO HF
   go_wp2_with fail
   refine HO.out.mono ?_
   rintro e w5 ⟨v,rfl,_,hb5⟩
   have hB5:=hBB.trans (hb5.mono hBB.size)
   go_wp2
   go_ret
   exact ⟨by rw [HF.out];rfl,hB5⟩
theorem validCircuit_any (p inp:Int) (a oa:Option Addr) (cap oc:Nat) (gs:List GtI) (os:List Int) (w:World) (ht:PrimeTab w) (hg:GtsAt w (.slice a gs.length cap) gs) (ho:IntsAt w (.slice oa os.length oc) os) (hn:gs.length≤1000000) (hm:os.length≤1000000) :
  Calls Tryz.prog 145 #[.int .i64 p,.agg #[.int .i64 inp,.slice a gs.length cap,.slice oa os.length oc]] w fun e w'=>e=.returned (.tuple #[ciV (circB p inp gs os) (.agg #[.int .i64 inp,.slice a gs.length cap,.slice oa os.length oc]) (.agg #[.int .i64 0,.slice none 0 0,.slice none 0 0]),.bool (circB p inp gs os)])∧Below w.heap.size w w':=by
 have hA1:=alloc_below w (.cells #[.int .i64 inp,.slice a gs.length cap,.slice oa os.length oc] 112)
 have hA2:=alloc_below (w.alloc (.cells #[.int .i64 inp,.slice a gs.length cap,.slice oa os.length oc] 112)) (.cells #[.int .i64 0,.slice none 0 0,.slice none 0 0] 112)
 have hA:=hA1.trans (hA2.mono hA1.size)
 have kC:=(Bk.new w 112 #[.int .i64 inp,.slice a gs.length cap,.slice oa os.length oc]).keep hA2
 have kZ:=Bk.new (w.alloc (.cells #[.int .i64 inp,.slice a gs.length cap,.slice oa os.length oc] 112)) 112 #[.int .i64 0,.slice none 0 0,.slice none 0 0]
 rw [World.size_alloc] at kZ
 have HQ:=Lib.hid (isCircuit_any p inp _ _ gs os ((w.alloc (.cells #[.int .i64 inp,.slice a gs.length cap,.slice oa os.length oc] 112)).alloc (.cells #[.int .i64 0,.slice none 0 0,.slice none 0 0] 112)) (ht.keep hA) (hg.keep hA) (ho.keep hA) hn hm)
 clear hA1 hA2 hg ho
 go_enter Tryz.func145,Tryz.ntmps145
 go_wp2_with fail
 refine HQ.out.mono ?_
 rintro e w1 ⟨rfl,hb1⟩
 have hB:=hA.trans (hb1.mono hA.size)
 obtain ⟨x0,xf,xz⟩:=(kC.keep hb1).cell
 have x1:=x0 1
 have x2:=x0 2
 have x0:=x0 0
 obtain ⟨y0,yf,yz⟩:=(kZ.keep hb1).cell
 have y1:=y0 1
 have y2:=y0 2
 have y0:=y0 0
 simp only [List.getElem?_toArray,List.getElem?_cons_zero,List.getElem?_cons_succ] at x0 x1 x2 y0 y1 y2
 clear HQ kC kZ hA hb1
 cases hcb:circB p inp gs os with
 | true =>
  have HCB:=Lib.hid hcb
  clear hcb
  go_wp2
  refine bodyPost_ret (v:=.tuple #[.agg #[.int .i64 inp,.slice a gs.length cap,.slice oa os.length oc],.bool true]) (by simp [results,Tryz.results145,go_sem,y0,y1,y2,yf,yz]) rfl ⟨by rw [HCB.out];rfl,?_⟩
  exact ((hB.setCell (by simp) _).setCell (by simp) _).setCell (by simp) _
 | false =>
  have HCB:=Lib.hid hcb
  clear hcb
  go_wp2
  refine bodyPost_ret (v:=.tuple #[.agg #[.int .i64 0,.slice none 0 0,.slice none 0 0],.bool false]) (by simp [results,Tryz.results145,go_sem,y0,y1,y2,yf,yz]) rfl ⟨by rw [HCB.out];rfl,?_⟩
  exact ((hB.setCell (by simp) _).setCell (by simp) _).setCell (by simp) _
end Go.Proofs.YtbljmfcifljkaaaGreatDoor
