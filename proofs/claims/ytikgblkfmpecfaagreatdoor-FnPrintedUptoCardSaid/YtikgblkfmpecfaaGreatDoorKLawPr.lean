/-
  The law of printed terms, walked. Own work.
-/
import Derived.Test.YtikgblkfmpecfaaGreatDoorKNG
import Derived.Test.YtikgblkfmpecfaaGreatDoorKNE
import Derived.Test.YtikgblkfmpecfaaGreatDoorKPtS
import Derived.Deep.DeepCutAuto
set_option linter.all false
set_option maxRecDepth 100000
set_option maxHeartbeats 8000000
namespace Go.Proofs.YtikgblkfmpecfaaGreatDoor
open Go.RowKit
def DoP (ns:List Nd) (p c:Int) (w:World) (e:Ending) (w':World):Prop :=
 ∃ v,e=.returned (.tuple #[.agg #[v],.int .i64 p,.int .i64 c])∧NdsOwn w' w.heap.size v ns∧Below w.heap.size w w'
def BlP (w:World) (e:Ending) (w':World):Prop:=e=.returned (.bool true)∧Below w.heap.size w w'
theorem prR_yes {full:Bool} {L:List Df} {ns:List Nd} {s:ByteArray} (h:prR full L ns=(s,true)):good L=true∧s=prT full (treeL ns)∧∃ x,typedL (leafIn L) ns=some x:=by
 unfold prR at h
 split at h
 ·rename_i h1
  simp only [Bool.and_eq_true] at h1
  cases h
  exact ⟨h1.1,rfl,Option.isSome_iff_exists.1 h1.2⟩
 ·cases h
theorem prR_val (full:Bool) {L:List Df} {ns:List Nd} {x:W2} (hg:good L=true) (hx:typedL (leafIn L) ns=some x):prR full L ns=(prT full (treeL ns),true):=by
 unfold prR
 rw [if_pos (by rw [hg,hx];rfl)]
theorem prR_size (full:Bool) (L:List Df) (ns:List Nd):(prR full L ns).1.size≤10000:=by
 unfold prR
 split
 ·rename_i h1
  simp only [Bool.and_eq_true] at h1
  obtain ⟨x,hx⟩:=Option.isSome_iff_exists.1 h1.2
  obtain ⟨t,htr,hto,htc⟩:=tree_of_typed (fun d hd=>nameB_size (good_names h1.1 d hd)) hx
  have:=prT_size full t hto
  rw [treeL_eq htr]
  simp only
  omega
 ·exact (by decide:(⟨#[]⟩:ByteArray).size≤10000)
theorem lawPr_any (va vb:Value) (xs ys:List UInt8) (w:World) (ha:BytesAt w va xs) (hb:BytesAt w vb ys) (la:∀ k,va.ownBlock=some k → k<w.heap.size) (lb:∀ k,vb.ownBlock=some k → k<w.heap.size)
  (hx:xs.length≤1099511627776) (hy:ys.length≤1099511627776) (het:ErrTab w) :
  Calls Tryz.prog 3 #[va,vb] w (BlP w):=by
 obtain ⟨aa,ca,rfl⟩:=ha.shape
 obtain ⟨ab,cb,rfl⟩:=hb.shape
 go_enter Tryz.func3,Tryz.ntmps3
 go_wp2_with fail
 refine (big_any _ _ xs ys w ha hb hx hy).mono ?_
 rintro e w0 ⟨b,rfl,hbg,hw0⟩
 obtain rfl:w=w0:=hw0.symm
 cases b
 ·obtain ⟨hx1,hy1⟩:=hbg rfl
  go_wp2_with fail
  refine (drawPrint_any _ xs w ha hx1 la).mono ?_
  rintro e w1 ⟨v1,zs,u1,nb,rfl,hrow,hgd,hok,hxl,hnb,hokb,hB1⟩
  obtain ⟨L,hL⟩:∃ L,L=zs.map Prod.fst:=⟨_,rfl⟩
  have hat:=hrow.at
  have hLn:L.length≤4:=by rw [hL];simpa using hxl
  rw [← hL] at hat hgd hok
  clear hrow hxl hL
  obtain ⟨a1,c1,rfl⟩:∃ a cap,v1=.slice a L.length cap:=by obtain ⟨a,cap,rfl,_⟩:=hat;exact ⟨a,cap,rfl⟩
  obtain ⟨a2,c2,rfl⟩:=hnb.slice
  have he1:=het.keep hB1
  have hz0:=prR_size false L nb
  have hz1:=prR_size true L nb
  obtain ⟨⟨s0,b0⟩,h0⟩:∃ R,prR false L nb=R:=⟨_,rfl⟩
  obtain ⟨⟨s1,b1⟩,h1⟩:∃ R,prR true L nb=R:=⟨_,rfl⟩
  have p0:=fun W (hb:Below w1.heap.size w1 W)=>implPrint_any _ _ L nb W (hat.keep hb) (by omega) hok (hnb.keep hb) hokb
  have p1:=fun W (hb:Below w1.heap.size w1 W)=>specPrint_any _ _ L nb W (hat.keep hb) (by omega) hok (hnb.keep hb) hokb
  have p2:=fun W (hb:Below w1.heap.size w1 W)=>implFull_any _ _ L nb W (hat.keep hb) (by omega) hok (hnb.keep hb) hokb
  have p3:=fun W (hb:Below w1.heap.size w1 W)=>specFull_any _ _ L nb W (hat.keep hb) (by omega) hok (hnb.keep hb) hokb
  rw [h0] at hz0 p0 p1
  rw [h1] at hz1 p2 p3
  simp only at hz0 hz1
  have P0:=Lib.hid p0
  have P1:=Lib.hid p1
  have P2:=Lib.hid p2
  have P3:=Lib.hid p3
  have H0:=Lib.hid h0
  have H1:=Lib.hid h1
  clear p0 p1 p2 p3 h0 h1
  have hW1:=alloc_below w1 (.cells #[.slice a2 nb.length c2] 27)
  have t1:(w1.alloc (.cells #[.slice a2 nb.length c2] 27)).cell? ⟨w1.heap.size,0,none⟩=some (.slice a2 nb.length c2):=by simp [go_sem]
  go_wp2_with fail
  refine (P0.out _ hW1).mono ?_
  rintro e w2 ⟨rfl,hb2⟩
  have t2:=(hb2.cell (p:=⟨w1.heap.size,0,none⟩) (by simp)).trans t1
  have z2:=cell_lt t2
  have B2:=hW1.trans (hb2.mono hW1.size)
  go_wp2_with fail
  refine (P1.out _ B2).mono ?_
  rintro e w3 ⟨rfl,hb3⟩
  have t3:=(hb3.cell (p:=⟨w1.heap.size,0,none⟩) z2).trans t2
  have z3:=cell_lt t3
  have B3:=B2.trans (hb3.mono B2.size)
  go_wp2_with fail
  refine (P2.out _ B3).mono ?_
  rintro e w4 ⟨rfl,hb4⟩
  have t4:=(hb4.cell (p:=⟨w1.heap.size,0,none⟩) z3).trans t3
  have z4:=cell_lt t4
  have B4:=B3.trans (hb4.mono B3.size)
  go_wp2_with fail
  refine (P3.out _ B4).mono ?_
  rintro e w5 ⟨rfl,hb5⟩
  have t5:=(hb5.cell (p:=⟨w1.heap.size,0,none⟩) z4).trans t4
  have z5:=cell_lt t5
  have B5:=B4.trans (hb5.mono B4.size)
  clear t1 t2 t3 t4 z2 z3 z4 B2 B3 B4 hb2 hb3 hb4 hb5 hW1 P0 P1 P2 P3
  go_upto_if 84 with fail
  go_cut [20] (fun s20 wx=>Below w.heap.size w wx)
  case first =>
   cases b0
   ·go_wp2_with fail
    go_meet
    case rel=>exact hB1.trans (B5.mono hB1.size)
   ·obtain ⟨hgL,hs0,x,hx⟩:=prR_yes H0.out
    have hr1:=prR_val true hgL hx
    rw [H1.out] at hr1
    obtain ⟨hs1,rfl⟩:=Prod.mk.inj hr1
    have r0:=readT_back false hgL hx
    have r1:=readT_back true hgL hx
    rw [← hs0] at r0
    rw [← hs1] at r1
    have q0:=fun W (hb:Below w1.heap.size w1 W)=>implParseTerm_any _ L s0 W (he1.keep hb) (hat.keep hb) (by omega) hok (by omega)
    have q1:=fun W (hb:Below w1.heap.size w1 W)=>implParseTerm_any _ L s1 W (he1.keep hb) (hat.keep hb) (by omega) hok (by omega)
    rw [r0] at q0
    rw [r1] at q1
    have q0':∀ W,Below w1.heap.size w1 W → Calls Tryz.prog 12 #[.slice a1 L.length c1,.string s0] W (DoP nb 0 0 W):=q0
    have q1':∀ W,Below w1.heap.size w1 W → Calls Tryz.prog 12 #[.slice a1 L.length c1,.string s1] W (DoP nb 0 0 W):=q1
    have Q0:=Lib.hid q0'
    have Q1:=Lib.hid q1'
    clear q0 q1 q0' q1' r0 r1 hs0 hs1 hr1 hx H0 H1
    go_wp2_with fail
    refine (Q0.out _ B5).mono ?_
    rintro e w6 ⟨v6,rfl,ho6,hb6⟩
    obtain ⟨a6,c6,rfl⟩:=ho6.slice
    have B6:=B5.trans (hb6.mono B5.size)
    have B6':=B6.alloc B6.size (.cells #[.slice a6 nb.length c6] 27)
    have t6:=(hb6.cell (p:=⟨w1.heap.size,0,none⟩) z5).trans t5
    have z6:=cell_lt t6
    go_wp2_with fail
    refine (Q1.out _ B6').mono ?_
    rintro e w7 ⟨v7,rfl,ho7,hb7⟩
    obtain ⟨a7,c7,rfl⟩:=ho7.slice
    have B7:=B6'.trans (hb7.mono B6'.size)
    have x7:w7.cell? ⟨w6.heap.size,0,none⟩=some (.slice a6 nb.length c6):=(hb7.cell (p:=⟨w6.heap.size,0,none⟩) (by simp)).trans (by simp [go_sem])
    have t7:=(hb7.cell (p:=⟨w1.heap.size,0,none⟩) (by simp;omega)).trans ((alloc_below w6 (.cells #[.slice a6 nb.length c6] 27)).cell (p:=⟨w1.heap.size,0,none⟩) z6 |>.trans t6)
    have h67:Below w6.heap.size w6 w7:=(alloc_below w6 _).trans (hb7.mono (by simp))
    have zx7:=cell_lt x7
    have zt7:=cell_lt t7
    have B7':=B7.alloc B7.size (.cells #[.slice a7 nb.length c7] 27)
    have n6:=(ho6.at).keep (h67.trans (alloc_below w7 (.cells #[.slice a7 nb.length c7] 27) |>.mono h67.size))
    have n7:=(ho7.at).keep (alloc_below w7 (.cells #[.slice a7 nb.length c7] 27))
    have n1:=hnb.keep B7'
    clear ho6 ho7 hb6 hb7 t5 t6 Q0 Q1
    go_wp2_with fail
    refine (sameTerm_any _ _ nb _ n6 n1 hokb.2).mono ?_
    rintro e w8 ⟨rfl,hb8⟩
    have x8:w8.cell? ⟨w7.heap.size,0,none⟩=some (.slice a7 nb.length c7):=(hb8.cell (p:=⟨w7.heap.size,0,none⟩) (by simp)).trans (by simp [go_sem])
    have t8:=(hb8.cell (p:=⟨w1.heap.size,0,none⟩) (by simp;omega)).trans ((alloc_below w7 (.cells #[.slice a7 nb.length c7] 27)).cell (p:=⟨w1.heap.size,0,none⟩) zt7 |>.trans t7)
    have zx8:=cell_lt x8
    have zt8:=cell_lt t8
    have B8:=B7'.trans (hb8.mono B7'.size)
    go_wp2_with fail
    refine (sameTerm_any _ _ nb _ (n7.keep hb8) (n1.keep hb8) hokb.2).mono ?_
    rintro e w9 ⟨rfl,hb9⟩
    have B9:=B8.trans (hb9.mono B8.size)
    go_wp2_with fail
    go_meet
    case rel=>exact hB1.trans (B9.mono hB1.size)
  case rest =>
   clear B5 t5 z5 hz0 hz1 H0 H1 hnb hokb hat hgd hok he1 hLn
   go_wp2_with fail
   refine (drawParse_any _ ys wc (hb.low lb hcut) hy1 (fun k hk=>Nat.lt_of_lt_of_le (lb k hk) hcut.size)).mono ?_
   rintro e w2 ⟨v2,zs2,u,rfl,hrow,hgd,hok,hxl,hu,hB2⟩
   obtain ⟨M,hM⟩:∃ M,M=zs2.map Prod.fst:=⟨_,rfl⟩
   have hat:=hrow.at
   have hMn:M.length≤4:=by rw [hM];simpa using hxl
   rw [← hM] at hat hgd hok
   clear hrow hxl hM
   obtain ⟨a2',c2',rfl⟩:∃ a cap,v2=.slice a M.length cap:=by obtain ⟨a,cap,rfl,_⟩:=hat;exact ⟨a,cap,rfl⟩
   have hBB:=hcut.trans (hB2.mono hcut.size)
   have he2:=het.keep hBB
   have hpl:=readT_plc M u
   have hnd:=readT_nds M u
   have hro:=readT_ok (s:=u) hgd
   have q0:=fun W (hb:Below w2.heap.size w2 W)=>implParseTerm_any _ M u W (he2.keep hb) (hat.keep hb) (by omega) hok (by omega)
   have q1:=fun W (hb:Below w2.heap.size w2 W)=>specParseTerm_any _ M u W (hat.keep hb) (by omega) hok (by omega)
   obtain ⟨⟨ns,p,c⟩,hR⟩:∃ R,readT M u=R:=⟨_,rfl⟩
   rw [hR] at hpl hnd hro q0 q1
   simp only at hpl hnd hro
   have q0':∀ W,Below w2.heap.size w2 W → Calls Tryz.prog 12 #[.slice a2' M.length c2',.string u] W (DoP ns p c W):=q0
   have q1':∀ W,Below w2.heap.size w2 W → Calls Tryz.prog 15 #[.slice a2' M.length c2',.string u] W (DoP ns p c W):=q1
   have Q0:=Lib.hid q0'
   have Q1:=Lib.hid q1'
   have HRO:=Lib.hid hro
   clear q0 q1 q0' q1' hR hro
   obtain ⟨hp0,hp1⟩:=hpl
   have gp0:¬ p<0:=by omega
   have gp1:¬ (u.size:Int)<p:=by omega
   go_wp2_with fail
   refine (Q0.out _ (Below.refl _ _)).mono ?_
   rintro e w3 ⟨v3,rfl,ho3,hb3⟩
   obtain ⟨a3,c3,rfl⟩:=ho3.slice
   have B3:=hb3.alloc hb3.size (.cells #[.slice a3 ns.length c3] 27)
   go_wp2_with fail
   refine (Q1.out _ B3).mono ?_
   rintro e w4 ⟨v4,rfl,ho4,hb4⟩
   obtain ⟨a4,c4,rfl⟩:=ho4.slice
   have B4:=B3.trans (hb4.mono B3.size)
   have x4:w4.cell? ⟨w3.heap.size,0,none⟩=some (.slice a3 ns.length c3):=(hb4.cell (p:=⟨w3.heap.size,0,none⟩) (by simp)).trans (by simp [go_sem])
   have zx4:=cell_lt x4
   have h34:Below w3.heap.size w3 w4:=(alloc_below w3 _).trans (hb4.mono (by simp))
   have B4':=B4.alloc B4.size (.cells #[.slice a4 ns.length c4] 27)
   have n3:=(ho3.at).keep (h34.trans (alloc_below w4 (.cells #[.slice a4 ns.length c4] 27) |>.mono h34.size))
   have n4:=(ho4.at).keep (alloc_below w4 (.cells #[.slice a4 ns.length c4] 27))
   clear ho3 ho4 hb4 h34 Q1
   go_wp2_with fail
   refine (sameTerm_any _ _ ns _ n3 n4 hnd.2).mono ?_
   rintro e w5 ⟨rfl,hb5⟩
   have B5:=B4'.trans (hb5.mono B4'.size)
   have x5:w5.cell? ⟨w3.heap.size,0,none⟩=some (.slice a3 ns.length c3):=(hb5.cell (p:=⟨w3.heap.size,0,none⟩) (by simp;omega)).trans ((alloc_below w4 (.cells #[.slice a4 ns.length c4] 27)).cell (p:=⟨w3.heap.size,0,none⟩) zx4 |>.trans x4)
   have zx5:=cell_lt x5
   have n5:=n3.keep hb5
   have hfin:∀ W,Below w2.heap.size w2 W → Below w.heap.size w W:=fun W h=>hBB.trans (h.mono hBB.size)
   clear x4 zx4 n3 n4 hb5
   by_cases hc:c=0
   ·by_cases hn:ns.length=0
    ·have gn:¬ (0:Int)<ns.length:=by omega
     subst hc
     go_wp2_with fail
     go_ret
     exact ⟨rfl,hfin _ B5⟩
    ·have gn:(0:Int)<ns.length:=by omega
     obtain ⟨x,hx⟩:=(HRO.out hc).resolve_left (fun e=>hn (by rw [e];rfl))
     have hr1:=prR_val false hgd hx
     have hz:=prR_size false M ns
     have p0:=fun W (hb:Below w2.heap.size w2 W) (h:NdsAt W (.slice a3 ns.length c3) ns)=>implPrint_any _ _ M ns W (hat.keep hb) (by omega) hok h hnd
     rw [hr1] at p0 hz
     simp only at hz
     obtain ⟨s,hs⟩:∃ s,s=prT false (treeL ns):=⟨_,rfl⟩
     have r0:=readT_back false hgd hx
     rw [← hs] at r0 p0 hz
     have q0:=fun W (hb:Below w2.heap.size w2 W)=>implParseTerm_any _ M s W (he2.keep hb) (hat.keep hb) (by omega) hok (by omega)
     rw [r0] at q0
     have q0':∀ W,Below w2.heap.size w2 W → Calls Tryz.prog 12 #[.slice a2' M.length c2',.string s] W (DoP ns 0 0 W):=q0
     have Q2:=Lib.hid q0'
     have P2:=Lib.hid p0
     clear q0 q0' p0 r0 hr1 hs hx
     subst hc
     go_wp2_with fail
     refine (P2.out _ B5 n5).mono ?_
     rintro e w6 ⟨rfl,hb6⟩
     have B6:=B5.trans (hb6.mono B5.size)
     have x6:=(hb6.cell (p:=⟨w3.heap.size,0,none⟩) zx5).trans x5
     have zx6:=cell_lt x6
     go_wp2_with fail
     refine (Q2.out _ B6).mono ?_
     rintro e w7 ⟨v7,rfl,ho7,hb7⟩
     obtain ⟨a7,c7,rfl⟩:=ho7.slice
     have B7:=B6.trans (hb7.mono B6.size)
     have x7:=(hb7.cell (p:=⟨w3.heap.size,0,none⟩) zx6).trans x6
     have zx7:=cell_lt x7
     have B7':=B7.alloc B7.size (.cells #[.slice a7 ns.length c7] 27)
     have n7:=(ho7.at).keep (alloc_below w7 (.cells #[.slice a7 ns.length c7] 27))
     have n6:=(n5.keep hb6).keep (hb7.trans (alloc_below w7 (.cells #[.slice a7 ns.length c7] 27) |>.mono hb7.size))
     clear ho7 Q2 P2
     go_wp2_with fail
     refine (sameTerm_any _ _ ns _ n7 n6 hnd.2).mono ?_
     rintro e w8 ⟨rfl,hb8⟩
     have B8:=B7'.trans (hb8.mono B7'.size)
     go_wp2_with fail
     go_ret
     exact ⟨rfl,hfin _ B8⟩
   ·go_wp2_with fail
    go_ret
    exact ⟨rfl,hfin _ B5⟩
 ·go_wp2_with fail
  go_ret
  exact ⟨rfl,Below.refl _ _⟩
end Go.Proofs.YtikgblkfmpecfaaGreatDoor
