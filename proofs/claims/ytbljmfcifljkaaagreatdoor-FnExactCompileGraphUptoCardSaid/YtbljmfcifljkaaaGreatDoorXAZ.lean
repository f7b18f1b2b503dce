/-
  The gates listed by the reference. Own work.
-/
import Derived.Test.YtbljmfcifljkaaaGreatDoorXAY
set_option linter.all false
set_option maxRecDepth 100000
set_option maxHeartbeats 8000000
namespace Go.Proofs.YtbljmfcifljkaaaGreatDoor
open Go.RowKit
set_option maxRecDepth 100000
set_option maxHeartbeats 2000000
structure LcS (w:World) (cs:Array Value) (wr:World) (v:Value) (out:List Int):Prop where
 kc:Bk wr w.heap.size 112 cs
 row:Rw wr w.heap.size v out
 bel:Below w.heap.size w wr
theorem LcS.keep {w:World} {cs:Array Value} {wr w':World} {v:Value} {out:List Int} (h:LcS w cs wr v out) (hb:Below wr.heap.size wr w'):LcS w cs w' v out:=⟨h.kc.keep hb,h.row.keep hb,h.bel.trans (hb.mono h.bel.size)⟩
theorem LcS.app {w:World} {cs:Array Value} {wr w':World} {v v':Value} {out out':List Int} (h:LcS w cs wr v out) (hg:wr.grownBy w' v.ownBlock) (q:Rw w' w.heap.size v' out'):LcS w cs w' v' out' :=
 ⟨h.kc.grown hg (row_blk_ne h.row h.kc (by decide)),q,h.bel.grown hg h.bel.size (fun j hj=>(World.ownsRow.lt h.row j hj).1)⟩
theorem ap_app {wr:World} {v v' u:Value} {l:List Int} {B:Nat} (hu:Rw wr B u l) (ha:∀ j,u.ownBlock=some j → v.ownBlock ≠ some j) (hv:v'.ownBlock=v.ownBlock∨v'.ownBlock=some wr.heap.size):∀ j,u.ownBlock=some j → v'.ownBlock ≠ some j :=
 ap_next hu ha (hv.imp_right fun e=>⟨_,e,Nat.le_refl _⟩)
theorem cmListed_any (p inp:Int) (vg vo:Value) (gs:List GtI) (os:List Int) (w:World) (h:CiOk p inp gs os) (hg:GtsAt w vg gs) (ho:IntsAt w vo os) :
  Calls Tryz.prog 205 #[.agg #[.int .i64 inp,vg,vo]] w (RwP (listL gs os) w):=by
 have hlen:=h.len
 have hout:=h.outs
 have hsc:=fun (U:World) (hb:Below w.heap.size w U)=>crOrder_any p inp vo vg gs U (hg.keep hb) (by omega) h.gates
 have hdl:=fun (U:World) (hb:Below w.heap.size w U)=>crDelays_any inp vo vg gs U (hg.keep hb) (by omega)
 obtain ⟨oa,oc,rfl⟩:=ho.slice
 have HO:=Lib.hid ho
 obtain ⟨a,cap,rfl,hc,hat⟩:=hg
 obtain ⟨b,o,rfl,_⟩:=hat 0 (by omega)
 have hord:(ordC gs).length≤40:=by rw [h.full];exact Nat.le_trans (List.length_filter_le _ _) hlen.2
 have hdly:(dlyL gs).length≤40:=Nat.le_trans (dlyN_len gs gs.length) hlen.2
 have hat:∀ i,∀ hi:i<gs.length,GtAt w gs[i] b (o+i * 4):=fun i hi=>by
  obtain ⟨b2,o2,e,_,hgt⟩:=hat i hi
  simp only [Option.some.injEq,Addr.mk.injEq,and_true] at e
  obtain ⟨rfl,rfl⟩:=e
  exact hgt
 have hA1:=alloc_below w (.cells #[.int .i64 inp,.slice (some ⟨b,o,none⟩) gs.length cap,.slice oa os.length oc] 112)
 have kC:=Bk.new w 112 #[.int .i64 inp,.slice (some ⟨b,o,none⟩) gs.length cap,.slice oa os.length oc]
 have hst:LcS w #[.int .i64 inp,.slice (some ⟨b,o,none⟩) gs.length cap,.slice oa os.length oc] (w.alloc (.cells #[.int .i64 inp,.slice (some ⟨b,o,none⟩) gs.length cap,.slice oa os.length oc] 112)) (.slice none 0 0) []:=⟨kC,World.ownsRow_nil _ _ _ _,hA1⟩
 have HSC:=Lib.hid hsc
 have HDL:=Lib.hid hdl
 have HAT:=Lib.hid hat
 clear hsc hdl hat hA1 kC ho
 go_enter Tryz.func205,Tryz.ntmps205
 go_wp2_with fail
 generalize (w.alloc (.cells #[.int .i64 inp,.slice (some ⟨b,o,none⟩) gs.length cap,.slice oa os.length oc] 112))=u0 at *
 refine (HSC.out u0 hst.bel).mono ?_
 rintro e w1 ⟨u,rfl,hu,hb1⟩
 have hap:=ap_fresh hst.row hu
 have hst1:=hst.keep hb1
 obtain ⟨ua,uc,rfl⟩:=hu.slice
 clear hst hb1
 go_wp2_with fail
 go_loopw [3,16] (fun rv i wr=>∃ k:Nat,k≤(ordC gs).length∧i=.int .i64 k∧LcS w #[.int .i64 inp,.slice (some ⟨b,o,none⟩) gs.length cap,.slice oa os.length oc] wr rv (ls1 gs k)∧Rw wr u0.heap.size (.slice ua (ordC gs).length uc) (ordC gs)∧∀ j,(Value.slice ua (ordC gs).length uc).ownBlock=some j → rv.ownBlock ≠ some j) (fun _ i _=>(ordC gs).length - (intOf i).toNat)
 case atStart=>exact ⟨0,Nat.zero_le _,rfl,hst1,hu,hap⟩
 case round =>
  clear hst1 hu hap
  obtain ⟨k,hk,rfl,hst,hu,hap⟩:=hrel
  obtain ⟨ra,rc,rfl⟩:=hst.row.slice
  by_cases hlk:k<(ordC gs).length
  ·obtain ⟨ub,uo,rfl,d0⟩:=ints_cell hu.at hlk
   obtain ⟨i,hoi,hi,hcm⟩:=ordC_open (List.getElem_mem hlk)
   have hlsok:=fun k2=>lsOps_ok h hlk k2
   have hnew:=ls1_succ gs hlk
   have hnot:=ls1_new gs hlk
   have hops:=ci_ops h (i:=(i:Int)) (by omega) (by omega)
   rw [hoi] at d0 hlsok hnew hnot
   have dz:=cell_lt d0
   have hgt:=HAT.out i hi
   have hopc:=fun W=>crOperands_any gs[i] W
   have hgi:=gNo_get hi
   obtain ⟨g,hgg⟩:∃ g,gs[i]=g:=⟨_,rfl⟩
   rw [hgg] at hgt hopc hgi
   rw [hgi] at hops hnot
   obtain ⟨c0,c1,c2,c3⟩:=hgt.keep hst.bel
   have bz:=cell_lt c0
   have x1:=hst.kc.cell.1 1
   have xz:=hst.kc.lt
   simp only [List.getElem?_toArray,List.getElem?_cons_zero,List.getElem?_cons_succ] at x1
   have HOPC:=Lib.hid hopc
   unfold gtV at HOPC
   have HGI:=Lib.hid hgi
   have HNEW:=Lib.hid hnew
   have HNOT:=Lib.hid hnot
   have HLS:=Lib.hid hlsok
   have HOPS:=Lib.hid hops
   clear hopc hgi hgg hnew hlsok hops hgt hoi hcm hnot
   go_wp2_with fail
   refine (HOPC.out wr).mono ?_
   rintro e w2 ⟨x,rfl,hx,hb2⟩
   have hap2:=ap_fresh hst.row hx
   have hst2:=hst.keep hb2
   have hu2:=hu.keep hb2
   have hol:=opsG_len g
   obtain ⟨xa,xc,rfl⟩:=hx.slice
   have hz0:lsOps gs (ls1 gs k) (i:Int) 0=ls1 gs k:=rfl
   rw [← hz0] at hst2
   clear hst hu hb2 d0 dz c0 c1 c2 c3 bz x1 xz hz0
   generalize hwz:wr.heap.size=wz at *
   clear hwz
   go_wp2_with fail
   go_loopw [3,27] (fun rv q wr=>∃ k2:Nat,k2≤(opsG g).length∧q=.int .i64 k2∧LcS w #[.int .i64 inp,.slice (some ⟨b,o,none⟩) gs.length cap,.slice oa os.length oc] wr rv (lsOps gs (ls1 gs k) (i:Int) k2)∧Rw wr u0.heap.size (.slice (some ⟨ub,uo,none⟩) (ordC gs).length uc) (ordC gs)∧(∀ j,(Value.slice (some ⟨ub,uo,none⟩) (ordC gs).length uc).ownBlock=some j → rv.ownBlock ≠ some j)∧Rw wr wz (.slice xa (opsG g).length xc) (opsG g)∧∀ j,(Value.slice xa (opsG g).length xc).ownBlock=some j → rv.ownBlock ≠ some j) (fun _ q _=>(opsG g).length - (intOf q).toNat)
   case atStart=>exact ⟨0,Nat.zero_le _,rfl,hst2,hu2,hap,hx,hap2⟩
   case round =>
    clear hst2 hu2 hap hx hap2
    obtain ⟨k2,hk2,rfl,hst,hu,hap,hx,hap2⟩:=hrel
    have hsmall:=ls_small h (HLS.out k2)
    obtain ⟨L,hL⟩:∃ L,lsOps gs (ls1 gs k) (i:Int) k2=L:=⟨_,rfl⟩
    by_cases hlk2:k2<(opsG g).length
    ·obtain ⟨xb,xo,rfl,d0⟩:=ints_cell hx.at hlk2
     have hzr:=HOPS.out _ (List.getElem_mem hlk2)
     have hnx:=lsOps_succ gs (ls1 gs k) (i:Int) (k:=k2) (by rw [HGI.out];exact hlk2)
     have hzz:(opsG (gNo gs (i:Int)))[k2]'(by rw [HGI.out];exact hlk2)=(opsG g)[k2]:=by simp only [HGI.out]
     rw [hzz] at hnx
     obtain ⟨z,hz⟩:∃ z:Nat,(opsG g)[k2]=z:=⟨((opsG g)[k2]).toNat,by omega⟩
     rw [hz] at d0 hzr hnx
     rw [hL] at hnx hsmall hst
     have hzl:z<gs.length:=by omega
     have hgt:=HAT.out z hzl
     unfold lsOp at hnx
     rw [gNo_get hzl] at hnx
     have hcmb:=fun W=>crCombines_any gs[z] W
     obtain ⟨gz,hgz⟩:∃ gz,gs[z]=gz:=⟨_,rfl⟩
     rw [hgz] at hgt hnx hcmb
     obtain ⟨c0,c1,c2,c3⟩:=hgt.keep hst.bel
     have HCMB:=Lib.hid hcmb
     unfold gtV at HCMB
     have dz:=cell_lt d0
     have bz:=cell_lt c0
     have x1:=hst.kc.cell.1 1
     have xz:=hst.kc.lt
     simp only [List.getElem?_toArray,List.getElem?_cons_zero,List.getElem?_cons_succ] at x1
     have HL:=Lib.hid hL
     clear hz hzz hgz hgt hcmb hL
     cases hcb:cmbB gz with
     | true =>
      rw [hcb] at hnx
      have HNX:=Lib.hid (by simpa using hnx:lsOps gs (ls1 gs k) (i:Int) (k2+1)=L)
      rw [hcb] at HCMB
      clear hnx hcb
      go_wp2_with fail
      refine (HCMB.out _).mono ?_
      rintro e w3 ⟨rfl,hb3⟩
      have HS:=Lib.hid (And.intro (hst.keep hb3) (And.intro (hu.keep hb3) (hx.keep hb3)))
      clear hst hu hx hb3
      go_wp2
      go_roundw
      case rel=>exact ⟨k2+1,by omega,by go_num,by rw [HNX.out];exact HS.out.1,HS.out.2.1,hap,HS.out.2.2,hap2⟩
      case measure=>simp [intOf];omega
     | false =>
      rw [hcb] at hnx
      have hnx2:lsOps gs (ls1 gs k) (i:Int) (k2+1)=lsAdd L z:=by simpa using hnx
      rw [hcb] at HCMB
      clear hnx hcb
      go_wp2_with fail
      refine (HCMB.out _).mono ?_
      rintro e w3 ⟨rfl,hb3⟩
      have hst3:=hst.keep hb3
      have hu3:=hu.keep hb3
      have hx3:=hx.keep hb3
      obtain ⟨la,lc,rfl⟩:=hst3.row.slice
      clear hst hu hx d0 dz c0 c1 c2 c3 bz x1 xz hb3
      go_wp2_with fail
      refine (l1Has_any _ L (z:Int) w3 hst3.row.at (by omega)).mono ?_
      rintro e w3' ⟨rfl,rfl⟩
      by_cases hmem:(z:Int) ∈ L
      ·have hd:decide ((z:Int) ∈ L)=true:=by simpa using hmem
       have HNX:=Lib.hid (hnx2.trans (by unfold lsAdd;rw [if_pos hmem]))
       have HS:=Lib.hid (And.intro hst3 (And.intro hu3 hx3))
       rw [hd]
       clear hst3 hu3 hx3 hmem hd hnx2
       go_wp2
       go_roundw
       case rel=>exact ⟨k2+1,by omega,by go_num,by rw [HNX.out];exact HS.out.1,HS.out.2.1,hap,HS.out.2.2,hap2⟩
       case measure=>simp [intOf];omega
      ·have hd:decide ((z:Int) ∈ L)=false:=by simpa using hmem
       have HNX:=Lib.hid (hnx2.trans (by unfold lsAdd;rw [if_neg hmem]))
       have h1:=one_at w3 z
       have hA4:=alloc_below w3 (.cells #[.int .i64 z] 3)
       have hst4:=hst3.keep hA4
       have hu4:=hu3.keep hA4
       have hx4:=hx3.keep hA4
       have hrow4:=hst4.row
       have hble:=hst4.bel.size
       rw [hd]
       clear hst3 hu3 hx3 hmem hd hnx2 hA4
       go_wp2_with (at_builtin;go_must (refine ints_append h1 rfl (.tmp 44) (.tmp 46) rfl w.heap.size _ L rfl rfl hrow4 hble (by simp only [List.length_singleton];omega) ?_);intro v5 w5 q1 q2 q3)
       have hst5:=hst4.app q2 q1
       have hu5:=hu4.grown q2 (fun j hj e=>hap j hj e)
       have hx5:=hx4.grown q2 (fun j hj e=>hap2 j hj e)
       have ha5:=ap_app hu4 hap q3
       have ha6:=ap_app hx4 hap2 q3
       go_roundw
       case rel=>exact ⟨k2+1,by omega,by go_num,by rw [HNX.out];exact hst5,hu5,ha5,hx5,ha6⟩
       case measure=>simp [intOf];omega
    ·obtain rfl:k2=(opsG g).length:=by omega
     have hnew:ls1 gs (k+1)=L ++ [(i:Int)]:=by
      rw [HNEW.out];unfold lsG;rw [HGI.out,hL]
      unfold lsAdd
      rw [if_neg (by rw [← hL];exact HNOT.out)]
     rw [hL] at hst hsmall
     have HN:=Lib.hid hnew
     obtain ⟨la,lc,rfl⟩:=hst.row.slice
     have h1:=one_at wr i
     have hA4:=alloc_below wr (.cells #[.int .i64 i] 3)
     have hst4:=hst.keep hA4
     have hu4:=hu.keep hA4
     have hrow4:=hst4.row
     have hble:=hst4.bel.size
     clear hnew hst hu hx hap2 hA4 hL
     go_wp2_with (at_builtin;go_must (refine ints_append h1 rfl (.tmp 49) (.tmp 51) rfl w.heap.size _ L rfl rfl hrow4 hble (by simp only [List.length_singleton];omega) ?_);intro v5 w5 q1 q2 q3)
     have hst5:=hst4.app q2 q1
     have hu5:=hu4.grown q2 (fun j hj e=>hap j hj e)
     have ha5:=ap_app hu4 hap q3
     go_roundw
     case rel=>exact ⟨k+1,by omega,by go_num,by rw [HN.out];exact hst5,hu5,ha5⟩
     case measure=>simp [intOf];omega
  ·obtain rfl:k=(ordC gs).length:=by omega
   clear hu hap
   obtain ⟨x0,xf,xz⟩:=hst.kc.cell
   have x1:=x0 1
   have x2:=x0 2
   have x0:=x0 0
   simp only [List.getElem?_toArray,List.getElem?_cons_zero,List.getElem?_cons_succ] at x0 x1 x2
   go_wp2_with fail
   refine (HDL.out wr hst.bel).mono ?_
   rintro e w2 ⟨d,rfl,hd,hb2⟩
   have hap:=ap_fresh hst.row hd
   have hst2:=hst.keep hb2
   obtain ⟨da,dc,rfl⟩:=hd.slice
   have hz0:ls2 gs 0=ls1 gs (ordC gs).length:=rfl
   rw [← hz0] at hst2 hap
   clear hst hb2 x0 x1 x2 xf xz hz0
   generalize hwz:wr.heap.size=wz at *
   clear hwz
   go_wp2_with fail
   go_loopw [3,57] (fun rv q wr=>∃ k2:Nat,k2≤(dlyL gs).length∧q=.int .i64 k2∧LcS w #[.int .i64 inp,.slice (some ⟨b,o,none⟩) gs.length cap,.slice oa os.length oc] wr rv (ls2 gs k2)∧Rw wr wz (.slice da (dlyL gs).length dc) (dlyL gs)∧∀ j,(Value.slice da (dlyL gs).length dc).ownBlock=some j → rv.ownBlock ≠ some j) (fun _ q _=>(dlyL gs).length - (intOf q).toNat)
   case atStart=>exact ⟨0,Nat.zero_le _,rfl,hst2,hd,hap⟩
   case round =>
    clear hst2 hd hap
    obtain ⟨k2,hk2,rfl,hst,hd,hap⟩:=hrel
    have hsmall:=ls_small h (ls2_ok h k2).1
    obtain ⟨L,hL⟩:∃ L,ls2 gs k2=L:=⟨_,rfl⟩
    by_cases hlk2:k2<(dlyL gs).length
    ·obtain ⟨db,do_,rfl,d0⟩:=ints_cell hd.at hlk2
     have hzr:=dly_mem (List.getElem_mem hlk2)
     have hnx:=ls2_succ gs hlk2
     obtain ⟨z,hz⟩:∃ z:Nat,(dlyL gs)[k2]=z:=⟨((dlyL gs)[k2]).toNat,by omega⟩
     rw [hz] at d0 hzr hnx
     rw [hL] at hnx hsmall hst
     have hzl:z<gs.length:=by omega
     have hgt:=HAT.out z hzl
     have c1:=(hgt.keep hst.bel).2.1
     rw [gNo_get hzl] at hnx
     obtain ⟨ga,hga⟩:∃ ga,(gs[z]).a=ga:=⟨_,rfl⟩
     rw [hga] at c1 hnx
     have dz:=cell_lt d0
     have bz:=cell_lt c1
     have x1:=hst.kc.cell.1 1
     have xz:=hst.kc.lt
     simp only [List.getElem?_toArray,List.getElem?_cons_zero,List.getElem?_cons_succ] at x1
     obtain ⟨la,lc,rfl⟩:=hst.row.slice
     clear hz hga hgt hzr hL
     go_wp2_with fail
     refine (l1Has_any _ L ga wr hst.row.at (by omega)).mono ?_
     rintro e w3' ⟨rfl,rfl⟩
     by_cases hmem:ga ∈ L
     ·have hdd:decide (ga ∈ L)=true:=by simpa using hmem
      have HNX:=Lib.hid (hnx.trans (by unfold lsAdd;rw [if_pos hmem]))
      have HS:=Lib.hid (And.intro hst hd)
      rw [hdd]
      clear hst hd hmem hdd hnx
      go_wp2
      go_roundw
      case rel=>exact ⟨k2+1,by omega,by go_num,by rw [HNX.out];exact HS.out.1,HS.out.2,hap⟩
      case measure=>simp [intOf];omega
     ·have hdd:decide (ga ∈ L)=false:=by simpa using hmem
      have HNX:=Lib.hid (hnx.trans (by unfold lsAdd;rw [if_neg hmem]))
      have h1:=one_at wr ga
      have hA4:=alloc_below wr (.cells #[.int .i64 ga] 3)
      have hst4:=hst.keep hA4
      have hd4:=hd.keep hA4
      have hrow4:=hst4.row
      have hble:=hst4.bel.size
      rw [hdd]
      clear hst hd hmem hdd hnx hA4
      go_wp2_with (at_builtin;go_must (refine ints_append h1 rfl (.tmp 71) (.tmp 73) rfl w.heap.size _ L rfl rfl hrow4 hble (by simp only [List.length_singleton];omega) ?_);intro v5 w5 q1 q2 q3)
      have hst5:=hst4.app q2 q1
      have hd5:=hd4.grown q2 (fun j hj e=>hap j hj e)
      have ha5:=ap_app hd4 hap q3
      go_roundw
      case rel=>exact ⟨k2+1,by omega,by go_num,by rw [HNX.out];exact hst5,hd5,ha5⟩
      case measure=>simp [intOf];omega
    ·obtain rfl:k2=(dlyL gs).length:=by omega
     have x2:=hst.kc.cell.1 2
     have xz:=hst.kc.lt
     simp only [List.getElem?_toArray,List.getElem?_cons_zero,List.getElem?_cons_succ] at x2
     have hz0:ls3 gs os 0=ls2 gs (dlyL gs).length:=rfl
     rw [← hz0] at hst
     clear hd hap hz0 hL
     generalize hww:wr=wo at *
     clear hww
     go_wp2_with fail
     go_loopw [3,79] (fun rv q wr=>∃ k2:Nat,k2≤os.length∧q=.int .i64 k2∧LcS w #[.int .i64 inp,.slice (some ⟨b,o,none⟩) gs.length cap,.slice oa os.length oc] wr rv (ls3 gs os k2)) (fun _ q _=>os.length - (intOf q).toNat)
     case atStart=>exact ⟨0,Nat.zero_le _,rfl,hst⟩
     case round =>
      clear hst x2 xz
      obtain ⟨k2,hk2,rfl,hst⟩:=hrel
      have hsmall:=ls_small h (ls3_ok h k2).1
      obtain ⟨L,hL⟩:∃ L,ls3 gs os k2=L:=⟨_,rfl⟩
      obtain ⟨la,lc,hlv⟩:=hst.row.slice
      by_cases hlk2:k2<os.length
      ·obtain ⟨db,do_,rfl,d0⟩:=ints_cell (HO.out.keep hst.bel) hlk2
       have hnx:=ls3_succ gs os hlk2
       rw [hL] at hnx hsmall hst hlv
       subst hlv
       have dz:=cell_lt d0
       generalize os[k2]=z at d0 hnx
       clear hL
       go_wp2_with fail
       refine (l1Has_any _ L z wr hst.row.at (by omega)).mono ?_
       rintro e w3' ⟨rfl,rfl⟩
       by_cases hmem:z ∈ L
       ·have hdd:decide (z ∈ L)=true:=by simpa using hmem
        have HNX:=Lib.hid (hnx.trans (by unfold lsAdd;rw [if_pos hmem]))
        have HS:=Lib.hid hst
        rw [hdd]
        clear hst hmem hdd hnx
        go_wp2
        go_roundw
        case rel=>exact ⟨k2+1,by omega,by go_num,by rw [HNX.out];exact HS.out⟩
        case measure=>simp [intOf];omega
       ·have hdd:decide (z ∈ L)=false:=by simpa using hmem
        have HNX:=Lib.hid (hnx.trans (by unfold lsAdd;rw [if_neg hmem]))
        have h1:=one_at wr z
        have hA4:=alloc_below wr (.cells #[.int .i64 z] 3)
        have hst4:=hst.keep hA4
        have hrow4:=hst4.row
        have hble:=hst4.bel.size
        rw [hdd]
        clear hst hmem hdd hnx hA4
        go_wp2_with (at_builtin;go_must (refine ints_append h1 rfl (.tmp 87) (.tmp 89) rfl w.heap.size _ L rfl rfl hrow4 hble (by simp only [List.length_singleton];omega) ?_);intro v5 w5 q1 q2 q3)
        have hst5:=hst4.app q2 q1
        go_roundw
        case rel=>exact ⟨k2+1,by omega,by go_num,by rw [HNX.out];exact hst5⟩
        case measure=>simp [intOf];omega
      ·obtain rfl:k2=os.length:=by omega
       have hres:Rw wr w.heap.size _ (listL gs os):=hst.row
       have hbel:=hst.bel
       subst hlv
       clear hst
       go_wp2
       go_ret
       exact ⟨_,rfl,hres,hbel⟩
end Go.Proofs.YtbljmfcifljkaaaGreatDoor
