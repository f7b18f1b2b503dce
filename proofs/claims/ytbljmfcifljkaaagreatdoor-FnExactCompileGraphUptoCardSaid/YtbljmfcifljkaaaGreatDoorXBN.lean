/-
  The program of a circuit, by the program. Own work; printed by a program of my own (parCqZ.py).
-/
import Derived.Test.YtbljmfcifljkaaaGreatDoorXBE
import Derived.Test.YtbljmfcifljkaaaGreatDoorXBM
import Derived.Test.YtbljmfcifljkaaaGreatDoorXBA
set_option linter.all false
set_option maxRecDepth 100000
set_option maxHeartbeats 8000000
namespace Go.Proofs.YtbljmfcifljkaaaGreatDoor
open Go.RowKit
set_option maxRecDepth 100000
set_option maxHeartbeats 2000000
theorem cz_low {T:Nat → Prop} {B:Nat} {w w':World} (h:Exc T w w') (hT:∀ j,T j → B≤j) (hB:B≤w.heap.size):Below B w w':=⟨h.os,h.tape,h.output,h.size,fun k hk=>h.block k (by omega) (fun ht=>by have:=hT k ht;omega)⟩
theorem fiV_dix {d:List Int} {i:Int} (h:i ∈ d):fiV (fun z=>decide (z=i)) d=dix d i:=by
 have hlt:=List.idxOf_lt_length_of_mem h
 unfold dix
 rw [if_pos h]
 refine fiV_hit hlt (fun j hj hji=>?_) (by simp)
 have:=List.not_of_lt_findIdx (p:=(· == i)) (xs:=d) (i:=j) hji
 simpa using this
theorem holds_mono (gs:List GtI) (os:List Int) {k:Nat}:∀ m,k+m≤(listL gs os).length → (cmK gs os k).holds.length≤(cmK gs os (k+m)).holds.length
 | 0,_=>Nat.le_refl _
 | m+1,h=>by
  refine Nat.le_trans (holds_mono gs os m (by omega)) ?_
  rw [← Nat.add_assoc,cmK_succ gs os (by omega)]
  unfold cmSt
  simp only [List.length_set]
  exact (hold1_len _ _ (rgS_le _ _ _)).2.1
theorem holds_over (gs:List GtI) (os:List Int) {k:Nat} (hk:k<(listL gs os).length) (h:¬ rgS (usesL gs os) k (cmK gs os k).holds<16):decide ((cmEnd gs os).holds.length≤16)=false:=by
 refine decide_eq_false (fun h2=>?_)
 have h1:=holds_mono gs os (k:=k+1) ((listL gs os).length - (k+1)) (by omega)
 rw [show k+1+((listL gs os).length - (k+1))=(listL gs os).length by omega,cmK_succ gs os hk] at h1
 unfold cmSt at h1
 simp only [List.length_set] at h1
 have h3:=(hold1_len _ _ (rgS_le (usesL gs os) k (cmK gs os k).holds)).1
 unfold cmEnd at h2
 omega
theorem compile_any (p inp:Int) (vg vo:Value) (gs:List GtI) (os:List Int) (w:World) (h:CiOk p inp gs os) (hg:GtsAt w vg gs) (ho:IntsAt w vo os) :
  Calls Tryz.prog 71 #[.agg #[.int .i64 inp,vg,vo]] w (CcP inp gs os w):=by
 have hlen:=h.len
 have hout:=h.outs
 have hlo:=list_ok h
 have hll:(listL gs os).length≤gs.length:=nodup_len hlo.nd hlo.rg
 have hdll:(dlyL gs).length≤gs.length:=dlyN_len gs gs.length
 have hul:=uses_len gs os
 have hnn:=uses_nn h
 have hlul:=luK_len (usesL gs os) gs.length (usesL gs os).length
 have hcl:=fun (U:World) (hb:Below w.heap.size w U)=>listed_any p inp vg vo gs os U h (hg.keep hb) (ho.keep hb)
 have hcu:=fun (U:World) (vl:Value) (hb:Below w.heap.size w U) (hl:IntsAt U vl (listL gs os))=>lastUses_any p inp vg vo vl gs os U h (hg.keep hb) (ho.keep hb) hl
 have hcd:=fun (U:World) (hb:Below w.heap.size w U)=>delays_any inp vo vg gs U (hg.keep hb) (by omega)
 have hmm:=@run_makeMap Tryz.prog
 obtain ⟨oa,oc,rfl⟩:=ho.slice
 have HO:=Lib.hid ho
 obtain ⟨a,cap,rfl,hc,hat⟩:=hg
 obtain ⟨b,o,rfl,_⟩:=hat 0 (by omega)
 have hat:∀ i,∀ hi:i<gs.length,GtAt w gs[i] b (o+i * 4):=fun i hi=>by
  obtain ⟨b2,o2,e,_,hgt⟩:=hat i hi
  simp only [Option.some.injEq,Addr.mk.injEq,and_true] at e
  obtain ⟨rfl,rfl⟩:=e
  exact hgt
 have hA:=alloc_below w (.cells #[.int .i64 inp,.slice (some ⟨b,o,none⟩) gs.length cap,.slice oa os.length oc] 112)
 have hA2:=alloc_below (w.alloc (.cells #[.int .i64 inp,.slice (some ⟨b,o,none⟩) gs.length cap,.slice oa os.length oc] 112)) (.cells #[.int .i64 0,.int .i64 0,.int .i64 0,.int .i64 0,.slice none 0 0] 68)
 have kC:=(Bk.new w 112 #[.int .i64 inp,.slice (some ⟨b,o,none⟩) gs.length cap,.slice oa os.length oc]).keep hA2
 have kZ:=Bk.new (w.alloc (.cells #[.int .i64 inp,.slice (some ⟨b,o,none⟩) gs.length cap,.slice oa os.length oc] 112)) 68 #[.int .i64 0,.int .i64 0,.int .i64 0,.int .i64 0,.slice none 0 0]
 rw [World.size_alloc] at kZ
 have hB:=hA.trans (hA2.mono hA.size)
 have HAT:=Lib.hid hat
 have HL:=Lib.hid hcl
 have HU:=Lib.hid hcu
 have HD:=Lib.hid hcd
 have HRG:=Lib.hid hlo.rg
 have HUL:=Lib.hid hul
 have HNN:=Lib.hid hnn
 have HLUL:=Lib.hid hlul
 have HH:=Lib.hid h
 have HLO:=Lib.hid hlo
 clear hA hA2 hat hcl hcu hcd hul hnn hlo h ho hlul
 go_enter Tryz.func71,Tryz.ntmps71
 go_wp2_with fail
 generalize ((w.alloc (.cells #[.int .i64 inp,.slice (some ⟨b,o,none⟩) gs.length cap,.slice oa os.length oc] 112)).alloc (.cells #[.int .i64 0,.int .i64 0,.int .i64 0,.int .i64 0,.slice none 0 0] 68))=u0 at *
 obtain ⟨x0,xf,xz⟩:=kC.cell
 have x1:=x0 1
 have x2:=x0 2
 have x0:=x0 0
 simp only [List.getElem?_toArray,List.getElem?_cons_zero,List.getElem?_cons_succ] at x0 x1 x2
 have up1:∀ {w':World},Exc NoT u0.drew w' → Below u0.heap.size u0 w':=fun h=>(Below.refl u0.heap.size u0).drew.trans (h.toBelow.mono (by simp))
 have up2:∀ {w':World},Exc NoT u0.drew w' → Below w.heap.size w w':=fun h=>hB.trans ((up1 h).mono hB.size)
 refine region_acts (C:=Exc (NoT) _) 6 [0,1,2,3,4,5] (by kernel_rfl) (by kernel_rfl) (Exc.grows _ _) (Exc.refl _ _) ?_
 iterate 1 (apply x_st rfl rfl rfl;(focus intro u hc' hf';go_simp <;> rfl);intro K hK;go_simp;apply hK;clear hK K)
 refine x_call rfl rfl rfl (Exc.grows _ _) (Exc.refl _ _) 147 (fun K hK=>?_);apply Exists.intro;refine ⟨fun w' hw'=>?_,fun wa hwa hbwa=>?_⟩;(focus go_simp;rfl);refine (HL.out _ (up2 hwa)).mono ?_;rintro e w1 ⟨vl,rfl,hvl,hb1⟩;refine ⟨_,rfl,hb1,fun hx=>?_⟩;go_simp;apply hK;clear hK K
 iterate 1 (apply x_st rfl rfl rfl;(focus intro u hc' hf';go_simp <;> rfl);intro K hK;go_simp;apply hK;clear hK K)
 refine x_call rfl rfl rfl (Exc.grows _ _) (hx) 148 (fun K hK=>?_);apply Exists.intro;refine ⟨fun w' hw'=>?_,fun wb hwb hbwb=>?_⟩;(focus go_simp;rfl);refine (HD.out _ (up2 hwb)).mono ?_;rintro e w2 ⟨vd,rfl,hvd,hb2⟩;refine ⟨_,rfl,hb2,fun hx=>?_⟩;go_simp;apply hK;clear hK K
 iterate 2 (apply x_st rfl rfl rfl;(focus intro u hc' hf';go_simp <;> rfl);intro K hK;go_simp;apply hK;clear hK K)
 refine x_nil ?_
 have hub:=up1 hx
 have hvl2:=(hvl.mono (Nat.zero_le _)).keep (hbwb.trans (hb2.mono hbwb.size))
 have hvd2:=hvd.mono (Nat.zero_le _)
 obtain ⟨la,lc,rfl⟩:=hvl2.slice
 obtain ⟨da,dc,rfl⟩:=hvd2.slice
 replace kC:=kC.keep hub
 replace kZ:=kZ.keep hub
 replace hB:=hB.trans (hub.mono hB.size)
 clear hx hwa hwb hvl hvd hb1 hb2 hbwa hbwb hub x0 x1 x2 xf xz
 obtain ⟨x0,xf,xz⟩:=kC.cell
 have x1:=x0 1
 have x2:=x0 2
 have x0:=x0 0
 simp only [List.getElem?_toArray,List.getElem?_cons_zero,List.getElem?_cons_succ] at x0 x1 x2
 go_wp2_with fail
 refine (HU.out w2 _ hB hvl2.at).mono ?_
 rintro e w3 ⟨vu,rfl,hvu,hb3⟩
 clear x0 x1 x2 xf xz
 replace kC:=kC.keep hb3
 replace kZ:=kZ.keep hb3
 replace hB:=hB.trans (hb3.mono hB.size)
 obtain ⟨x0,xf,xz⟩:=kC.cell
 have x1:=x0 1
 have x2:=x0 2
 have x0:=x0 0
 simp only [List.getElem?_toArray,List.getElem?_cons_zero,List.getElem?_cons_succ] at x0 x1 x2
 replace hvl2:=hvl2.keep hb3
 replace hvd2:=hvd2.keep hb3
 obtain ⟨ua,uc,hue⟩:=hvu.slice
 rw [HLUL.out] at hue
 subst hue
 have hvu0:=hvu.mono (Nat.zero_le _)
 clear hvu hb3
 have hA3:=alloc_below w3 (.cells #[.slice ua gs.length uc] 40)
 have hA4:=alloc_below (w3.alloc (.cells #[.slice ua gs.length uc] 40)) (.cells #[.int .i64 inp,.int .i64 os.length,.int .i64 (dlyL gs).length,.int .i64 0,.slice none 0 0] 68)
 have kL:=(Bk.new w3 40 #[.slice ua gs.length uc]).keep hA4
 have kX:=Bk.new (w3.alloc (.cells #[.slice ua gs.length uc] 40)) 68 #[.int .i64 inp,.int .i64 os.length,.int .i64 (dlyL gs).length,.int .i64 0,.slice none 0 0]
 rw [World.size_alloc] at kX
 have hB5:=hA3.trans (hA4.mono hA3.size)
 go_wp2_with fail
 generalize ((w3.alloc (.cells #[.slice ua gs.length uc] 40)).alloc (.cells #[.int .i64 inp,.int .i64 os.length,.int .i64 (dlyL gs).length,.int .i64 0,.slice none 0 0] 68))=v3 at *
 refine (repeated_any (-1) 16 v3 (by omega)).mono ?_
 rintro e w4 ⟨vh,rfl,hvh,hb4⟩
 obtain ⟨hq,hqc,hve,hqz,hqB⟩:=hvh.block (by simp)
 rw [List.length_replicate] at hve
 subst hve
 have hA6:=alloc_below w4 (.map #[] 0)
 have hM0:=World.ownsMap_made w4 Tryz.prog 3 (plainElem (H:=Unit) Tryz.prog 3)
 have hst:CmV w3 (.slice ua gs.length uc) w4.heap.size 0 inp os.length (dlyL gs).length 0 (w4.alloc (.map #[] 0)) (.slice (some ⟨hq,0,none⟩) 16 hqc) (.slice none 0 0) (heldL []) (List.replicate gs.length (-1)) [] [] :=
  ⟨(kL.keep hb4).keep hA6,(kX.keep hb4).keep hA6,(show Rw w4 w3.heap.size _ (List.replicate 16 (-1)) from hvh.mono hB5.size).keep hA6,⟨_,hM0,fun k hk=>by cases hk⟩,(hB5.trans (hb4.mono hB5.size)).size,World.ownsRow_nil _ _ _ _,(hB5.trans (hb4.mono hB5.size)).trans (hA6.mono (hB5.trans (hb4.mono hB5.size)).size)⟩
 clear kL kX hB5 hA3 hA4 hvh hb4 hqz hqB hA6 hM0 x0 x1 x2 xf xz
 go_wp2_with fail
 generalize w4.heap.size=bm at *
 generalize (w4.alloc (.map #[] 0))=w5 at *
 go_loopw [38] (fun i wr=>∃ k:Nat,k≤(listL gs os).length∧i=.int .i64 k∧∃ vp n,CmV w3 (.slice ua gs.length uc) bm n inp os.length (dlyL gs).length (cmK gs os k).holds.length wr (.slice (some ⟨hq,0,none⟩) 16 hqc) vp (heldL (cmK gs os k).holds) (cmK gs os k).reg ((listL gs os).take k) (cmK gs os k).code∧(cmK gs os k).holds.length≤16∧n≤k) (fun i _=>(listL gs os).length - (intOf i).toNat)
 case atStart=>exact ⟨0,Nat.zero_le _,rfl,_,0,hst,(show (0:Nat)≤16 by omega),Nat.le_refl _⟩
 case round =>
 clear hst
 obtain ⟨k,hk,rfl,vp,n,hst,h16,hnk⟩:=hrel
 by_cases hlk:k<(listL gs os).length
 ·have hI:=cm_inv HH.out k hk
  obtain ⟨pb,po,rfl,d0⟩:=ints_cell (hvl2.keep hst.bel).at hlk
  have hir:=HRG.out _ (List.getElem_mem hlk)
  have hcl:=HLO.out.cl k hlk
  obtain ⟨i,hii⟩:∃ i:Nat,(listL gs os)[k]=i:=⟨((listL gs os)[k]).toNat,by omega⟩
  have HST:=Lib.hid (fun r I H6=>cm_step (r:=r) (I:=I) (H6:=H6) hlk hii)
  have hops:=ci_ops HH.out hir.1 hir.2
  have hgk:=HH.out.gates _ (gNo_mem hir.1 hir.2)
  have htk:=List.take_succ_eq_append_getElem hlk
  rw [hii] at d0 hir hops hgk hcl htk
  have HTK:=Lib.hid htk
  have HKS:=Lib.hid (show ∀ z ∈ (listL gs os).take k,0≤z from fun z hz=>(HRG.out _ (List.mem_of_mem_take hz)).1)
  have hi:i<gs.length:=by omega
  have hgn:=gNo_get hi
  have hgt:=(HAT.out i hi).keep (hB.trans (hst.bel.mono hB.size))
  obtain ⟨g,hgg⟩:∃ g,gs[i]=g:=⟨_,rfl⟩
  rw [hgg] at hgt hgn
  rw [hgn] at hops hgk hcl
  obtain ⟨kd,ga,gb,gv⟩:=g
  obtain ⟨c0,c1,c2,c3⟩:=hgt
  simp only at c0 c1 c2 c3
  have HGN:=Lib.hid hgn
  have hov:=holds_over gs os hlk
  have HOV:=Lib.hid hov
  clear hov hgn htk
  generalize cmK gs os k=s at *
  obtain ⟨H,R,P⟩:=s
  simp only at hst hI h16
  obtain ⟨hIrl,hIho,hIrg,hIcl,hIhl,-⟩:=hI
  simp only at hIrl hIho hIrg hIcl hIhl
  have hHn:∀ h ∈ H,0≤h∧h<gs.length:=fun h hh=>HRG.out _ (List.mem_of_mem_take (hIho _ hh))
  have hhz:∀ z ∈ heldL H,z<gs.length:=fun z hz=>by
   unfold heldL at hz
   rcases List.mem_append.1 hz with h1|h1
   ·exact (hHn z h1).2
   ·have:=(List.mem_replicate.1 h1).2
    omega
  have hfind:=reg_find (U:=usesL gs os) (n:=gs.length) (holds:=H) (t:=k) (fun u hu a ha=>(HNN.out u hu a ha).1) (by rw [HUL.out];omega) hHn h16
  have xk:=kC.keep hst.bel
  have x1:=xk.cell.1 1
  have xz:=xk.lt
  simp only [List.getElem?_toArray,List.getElem?_cons_zero,List.getElem?_cons_succ] at x1
  have bz:=cell_lt c0
  have dz:=cell_lt d0
  have hA7:=alloc_below wr (.cells #[.int .i64 k] 3)
  have hA8:=alloc_below (wr.alloc (.cells #[.int .i64 k] 3)) (.cells #[.int .i64 kd,.int .i64 ga,.int .i64 gb,.int .i64 gv] 203)
  have kA:=(Bk.new wr 3 #[.int .i64 k]).keep hA8
  have kG:=Bk.new (wr.alloc (.cells #[.int .i64 k] 3)) 203 #[.int .i64 kd,.int .i64 ga,.int .i64 gb,.int .i64 gv]
  rw [World.size_alloc] at kG
  have hst2:=(hst.keep hA7).keep hA8
  have hif:=indexFunc_any (.slice (some ⟨hq,0,none⟩) 16 hqc) (heldL H) 152 #[.pointer (some ⟨w3.heap.size,0,none⟩),.pointer (some ⟨wr.heap.size,0,none⟩)] (regP (luK (usesL gs os) gs.length (usesL gs os).length) k) ((wr.alloc (.cells #[.int .i64 k] 3)).alloc (.cells #[.int .i64 kd,.int .i64 ga,.int .i64 gb,.int .i64 gv] 203)) hst2.rh.at (by rw [heldL_len h16];omega)
   (fun W z hz hbW=>(cFree_any z k w3.heap.size wr.heap.size (.slice ua gs.length uc) (luK (usesL gs os) gs.length (usesL gs os).length) W (hst2.keep hbW).kl (hvu0.keep (hst2.keep hbW).bel).at (kA.keep hbW) (by rw [HLUL.out];exact hhz z hz) (by rw [HLUL.out];omega)).mono fun e w' hh=>⟨hh.1,hbW.trans (hh.2.mono hbW.size)⟩)
   (eg_of Tryz.func152 (by kernel_rfl) rfl)
  rw [hfind] at hif
  have hkd:kd=1∨kd=2∨kd=3∨kd=4∨kd=5:=by
   have h1:=gate_kind hgk
   unfold gatB at h1
   simp only at h1
   by_cases h1':kd=1
   ·exact .inl h1'
   by_cases h2':kd=2
   ·exact .inr (.inl h2')
   by_cases h3':kd=3
   ·exact .inr (.inr (.inl h3'))
   by_cases h4':kd=4
   ·exact .inr (.inr (.inr (.inl h4')))
   by_cases h5':kd=5
   ·exact .inr (.inr (.inr (.inr h5')))
   simp [h1',h2',h3',h4',h5'] at h1
  obtain ⟨r,hrg⟩:∃ r,rgS (usesL gs os) k H=r:=⟨_,rfl⟩
  have hrl:=rgS_le (usesL gs os) k H
  rw [hrg] at hif HOV hrl
  have HST2:=Lib.hid hst2
  by_cases hr16:r<16
  ·rw [if_pos hr16] at hif
   have HIF:=Lib.hid hif
   have HRG2:=Lib.hid hrg
   have HKG:=Lib.hid kG
   clear hif hfind hA7 hA8 kA hst hst2 hhz hHn hrg kG xk
   go_wp2_with fail
   refine HIF.out.mono ?_
   rintro e w6 ⟨rfl,hb6⟩
   have hst6:=HST2.out.keep hb6
   have kG6:=HKG.out.keep hb6
   have hr0:¬ ((r:Int)<0):=by omega
   have hmax:=hold_max hrl
   obtain ⟨M,hM⟩:∃ M,(hold1 H r).length=M:=⟨_,rfl⟩
   rw [hM] at hmax
   have hM16:M≤16:=by have:=(hold1_len H r hrl).2.2;rw [hM] at this;split at this <;> omega
   have HFIN:=Lib.hid (And.intro hM (heldL_set (i:=(i:Int)) hrl hr16 h16))
   clear HST2 HIF HKG c0 c1 c2 c3 x1 xz bz dz d0 hb6 hM
   rcases hkd with hkd|hkd|hkd|hkd|hkd
   ·subst hkd
    have hins:insOf gs (dlyL gs) R (i:Int) r=⟨1,r,gv,0,0⟩:=by unfold insOf;rw [HGN.out];rfl
    have HSU:=Lib.hid (HST.out r _ _ HRG2.out hins rfl)
    clear hins hops hgk
    have hA9:=alloc_below w6 (.cells #[.int .i64 0,.int .i64 r,.int .i64 0,.int .i64 0,.int .i64 0] 206)
    have kI:=Bk.new w6 206 #[.int .i64 0,.int .i64 r,.int .i64 0,.int .i64 0,.int .i64 0]
    have y0:=kG6.cell.1 0
    have y1:=kG6.cell.1 1
    have y2:=kG6.cell.1 2
    have y3:=kG6.cell.1 3
    have yz:=kG6.lt
    have kG7:=kG6.keep hA9
    simp only [List.getElem?_toArray,List.getElem?_cons_zero,List.getElem?_cons_succ] at y0 y1 y2 y3
    go_wp2_with fail
    clear y0 y1 y2 y3
    have hsz7:(w6.alloc (.cells #[.int .i64 0,.int .i64 r,.int .i64 0,.int .i64 0,.int .i64 0] 206)).heap.size=w6.heap.size+1:=World.size_alloc _ _
    generalize wr.heap.size+1=gk at *
    generalize hbi:w6.heap.size=bi at *
    generalize (w6.alloc (.cells #[.int .i64 0,.int .i64 r,.int .i64 0,.int .i64 0,.int .i64 0] 206))=w7 at *
    have y0:=kG7.cell.1 0
    have y1:=kG7.cell.1 1
    have y2:=kG7.cell.1 2
    have y3:=kG7.cell.1 3
    have y7:=kG7.lt
    have iz:=kI.lt
    have hgb:¬ gk=bi:=by omega
    have hgb2:¬ bi=gk:=by omega
    simp only [List.getElem?_toArray,List.getElem?_cons_zero,List.getElem?_cons_succ] at y0 y1 y2 y3
    have low:∀ {w':World},Exc (fun j=>j=bi) w7.drew w' → Below bi w6 w':=fun h=>hA9.trans (((Below.refl w7.heap.size w7).drew.mono (by omega)).trans (cz_low h (fun j hj=>by omega) (by simp only [World.size_drew];omega)))
    refine region_acts (C:=Exc ((fun j=>j=bi)) _) 6 [0,1,2,3,4,5] (by kernel_rfl) (by kernel_rfl) (Exc.grows _ _) (Exc.refl _ _) ?_
    iterate 3 (apply x_sT rfl rfl rfl;(focus intro u hc' hf';(try simp only [World.size_drew] at hc' hf');go_simp <;> rfl);intro K hK;go_simp;apply hK;clear hK K)
    refine x_do rfl rfl rfl (Exc.grows _ _) (Exc.refl _ _) (fun K hK=>?_)
    intro u1 hw1 hb1
    have kI1:=kI.keep ((Below.refl w7.heap.size w7).drew.trans (hb1.mono (by simp)))
    obtain ⟨m0,m1,m2⟩:=kI1.cell
    refine ⟨u1.setCell ⟨bi,0,none⟩ (.int .i64 1),?_,⟨exc_set hw1 (.inr rfl) _,by simp,fun j hN _ _=>by rw [Below.heap_setCell _ _ _ _ (fun h=>by simp at h;simp only [World.size_drew] at hN;omega)]⟩,?_⟩
    ·go_simp
    go_simp
    refine hK _ _ _ ?_
    clear hK K m0 m1 m2
    have kS1:Bk (u1.setCell ⟨bi,0,none⟩ (.int .i64 1)) bi 206 #[.int .i64 1,.int .i64 r,.int .i64 0,.int .i64 0,.int .i64 0]:=by simpa using kI1.set 0 (.int .i64 1)
    iterate 1 (apply x_sT rfl rfl rfl;(focus intro u hc' hf';(try simp only [World.size_drew] at hc' hf');go_simp <;> rfl);intro K hK;go_simp;apply hK;clear hK K)
    refine x_do rfl rfl rfl (Exc.grows _ _) (exc_set (a:=⟨bi,0,none⟩) hw1 (.inr rfl) (.int .i64 1)) (fun K hK=>?_)
    intro u2 hw2 hb2
    have kI2:=kS1.keep (hb2)
    obtain ⟨m0,m1,m2⟩:=kI2.cell
    refine ⟨u2.setCell ⟨bi,2,none⟩ (.int .i64 gv),?_,⟨exc_set hw2 (.inr rfl) _,by simp,fun j hN _ _=>by rw [Below.heap_setCell _ _ _ _ (fun h=>by simp at h;simp only [World.size_drew] at hN;omega)]⟩,?_⟩
    ·go_simp
    go_simp
    refine hK _ _ _ ?_
    clear hK K m0 m1 m2
    have kS2:Bk (u2.setCell ⟨bi,2,none⟩ (.int .i64 gv)) bi 206 #[.int .i64 1,.int .i64 r,.int .i64 gv,.int .i64 0,.int .i64 0]:=by simpa using kI2.set 2 (.int .i64 gv)
    refine x_nil ?_
    have hbf:=low (exc_set (a:=⟨bi,2,none⟩) hw2 (.inr rfl) (.int .i64 gv))
    generalize (u2.setCell ⟨bi,2,none⟩ (.int .i64 gv))=w8 at *
    subst hbi
    have hst12:=hst6.keep hbf
    have kI:=kS2
    obtain ⟨i0,-,iz9⟩:=kI.cell
    have i1:=i0 1
    have i2:=i0 2
    have i3:=i0 3
    have i4:=i0 4
    have i0:=i0 0
    have p4:=hst12.kx.cell.1 4
    have pz:=hst12.kx.lt
    simp only [List.getElem?_toArray,List.getElem?_cons_zero,List.getElem?_cons_succ] at p4 i0 i1 i2 i3 i4
    have hA10:=alloc_below w8 (.cells #[.int .i64 1,.int .i64 r,.int .i64 gv,.int .i64 0,.int .i64 0] 206)
    have hst7:=hst12.keep hA10
    have hone:=inst_one w8 ⟨1,r,gv,0,0⟩
    clear y0 y1 y2 y3 y7 yz iz hA9 hA10 hst6 hst12 kG6 kG7 hbf low kI kI1 kS1 hw1 hb1 kI2 kS2 hw2 hb2
    have hP7:=hst7.rp
    have hsz7:=hst7.bel.size
    have HS7:=Lib.hid hst7
    clear hst7
    go_wp2_with (first|(have hq1:=hone;at_builtin;go_must (refine ins_append hq1 rfl (.tmp 99) (.tmp 101) rfl w3.heap.size vp P rfl rfl hP7 hsz7 (by simp only [List.length_singleton];omega) ?_);intro v8 w8 q1 q2 q3;clear hone hq1;obtain ⟨va8,vc8,hve⟩:=q1.slice;rw [List.length_append,List.length_singleton,hIcl] at hve;subst hve;have hst8:=HS7.out.putP q2 q1;have hst9:=hst8.setH (heldL_len h16) hr16 i;obtain ⟨kl8,kx8,rh8,mp8,hbel8⟩:=HS7.out.growP q2 q1;obtain ⟨⟨d1,f1⟩,-⟩:=Rw.put rh8 (n:=16) (heldL_len h16) (k:=r) hr16 0;have n1:w3.heap.size+1 ≠ hq:=(fun e=>row_blk_ne rh8 kx8 (by decide) (by simp [Value.ownBlock,e]));have n2:hq ≠ w3.heap.size+1:=(fun e=>n1 e.symm);have z1:=cell_lt d1;have zx:=kx8.lt;have fx:=kx8.cell.2.1 4;have xx:=kx8.cell.1 4;simp only [List.getElem?_toArray,List.getElem?_cons_zero,List.getElem?_cons_succ] at xx;obtain ⟨D,hown,hmn⟩:=hst9.mp;have HMN:=Lib.hid hmn;have HS9:=Lib.hid hst9;clear hst8 hst9 kl8 kx8 rh8 mp8 hbel8 hmn)|(have hq2:=hown;at_mapUpdate;go_must (refine wpList_mapUpdate_own _ rfl _ _ _ 201 rfl 3 3 kInt Tryz.underlying201 _ bm n D rfl hq2 (by unfold maxLen;omega) _ _ _ rfl rfl (kI_key (i:=(i:Int)) (by omega) (by omega)) _ [] (plainElem_int Tryz.underlying3 (kI_wf (i:=(r:Int)) (by omega) (by omega))) ?_);intro w9 hown9 hgrow9;have hst10:=HS9.out.putM hgrow9 ⟨_,hown9,mn_put HMN.out hq2.isMap (by omega) (by rw [hIrl];omega) HKS.out⟩;clear hown hq2;have g3:=hst10.kx.cell.1 3;have gf3:=hst10.kx.cell.2.1 3;have gz:=hst10.kx.lt;simp only [List.getElem?_toArray,List.getElem?_cons_zero,List.getElem?_cons_succ] at g3;have HS10:=Lib.hid hst10;clear hst10))
    have hst11:=HS10.out.setN (M:Int)
    go_roundw
    case rel=>exact ⟨k+1,by omega,by go_num,_,n+1,by rw [HSU.out.1,HSU.out.2.1,HSU.out.2.2,HTK.out,← HFIN.out.2,List.length_set,HFIN.out.1];rw [Int.toNat_natCast] at hst11;exact hst11,by rw [HSU.out.1,List.length_set,HFIN.out.1];exact hM16,by omega⟩
    case measure=>simp [intOf];omega
   ·subst hkd
    have hins:insOf gs (dlyL gs) R (i:Int) r=⟨2,r,0,0,0⟩:=by unfold insOf;rw [HGN.out];rfl
    have HSU:=Lib.hid (HST.out r _ _ HRG2.out hins rfl)
    clear hins hops hgk
    have hA9:=alloc_below w6 (.cells #[.int .i64 2,.int .i64 r,.int .i64 0,.int .i64 0,.int .i64 0] 206)
    have hA10:=alloc_below (w6.alloc (.cells #[.int .i64 2,.int .i64 r,.int .i64 0,.int .i64 0,.int .i64 0] 206)) (.cells #[.int .i64 2,.int .i64 r,.int .i64 0,.int .i64 0,.int .i64 0] 206)
    have hst7:=(hst6.keep hA9).keep hA10
    have y0:=kG6.cell.1 0
    have y1:=kG6.cell.1 1
    have y2:=kG6.cell.1 2
    have y3:=kG6.cell.1 3
    have yz:=kG6.lt
    have p4:=hst6.kx.cell.1 4
    have pz:=hst6.kx.lt
    simp only [List.getElem?_toArray,List.getElem?_cons_zero,List.getElem?_cons_succ] at y0 y1 y2 y3 p4
    have hone:=inst_one (w6.alloc (.cells #[.int .i64 2,.int .i64 r,.int .i64 0,.int .i64 0,.int .i64 0] 206)) ⟨2,r,0,0,0⟩
    rw [World.size_alloc] at hone
    clear hA9 hA10 hst6 kG6
    have hP7:=hst7.rp
    have hsz7:=hst7.bel.size
    have HS7:=Lib.hid hst7
    clear hst7
    go_wp2_with (first|(have hq1:=hone;at_builtin;go_must (refine ins_append hq1 rfl (.tmp 99) (.tmp 101) rfl w3.heap.size vp P rfl rfl hP7 hsz7 (by simp only [List.length_singleton];omega) ?_);intro v8 w8 q1 q2 q3;clear hone hq1;obtain ⟨va8,vc8,hve⟩:=q1.slice;rw [List.length_append,List.length_singleton,hIcl] at hve;subst hve;have hst8:=HS7.out.putP q2 q1;have hst9:=hst8.setH (heldL_len h16) hr16 i;obtain ⟨kl8,kx8,rh8,mp8,hbel8⟩:=HS7.out.growP q2 q1;obtain ⟨⟨d1,f1⟩,-⟩:=Rw.put rh8 (n:=16) (heldL_len h16) (k:=r) hr16 0;have n1:w3.heap.size+1 ≠ hq:=(fun e=>row_blk_ne rh8 kx8 (by decide) (by simp [Value.ownBlock,e]));have n2:hq ≠ w3.heap.size+1:=(fun e=>n1 e.symm);have z1:=cell_lt d1;have zx:=kx8.lt;have fx:=kx8.cell.2.1 4;have xx:=kx8.cell.1 4;simp only [List.getElem?_toArray,List.getElem?_cons_zero,List.getElem?_cons_succ] at xx;obtain ⟨D,hown,hmn⟩:=hst9.mp;have HMN:=Lib.hid hmn;have HS9:=Lib.hid hst9;clear hst8 hst9 kl8 kx8 rh8 mp8 hbel8 hmn)|(have hq2:=hown;at_mapUpdate;go_must (refine wpList_mapUpdate_own _ rfl _ _ _ 201 rfl 3 3 kInt Tryz.underlying201 _ bm n D rfl hq2 (by unfold maxLen;omega) _ _ _ rfl rfl (kI_key (i:=(i:Int)) (by omega) (by omega)) _ [] (plainElem_int Tryz.underlying3 (kI_wf (i:=(r:Int)) (by omega) (by omega))) ?_);intro w9 hown9 hgrow9;have hst10:=HS9.out.putM hgrow9 ⟨_,hown9,mn_put HMN.out hq2.isMap (by omega) (by rw [hIrl];omega) HKS.out⟩;clear hown hq2;have g3:=hst10.kx.cell.1 3;have gf3:=hst10.kx.cell.2.1 3;have gz:=hst10.kx.lt;simp only [List.getElem?_toArray,List.getElem?_cons_zero,List.getElem?_cons_succ] at g3;have HS10:=Lib.hid hst10;clear hst10))
    have hst11:=HS10.out.setN (M:Int)
    go_roundw
    case rel=>exact ⟨k+1,by omega,by go_num,_,n+1,by rw [HSU.out.1,HSU.out.2.1,HSU.out.2.2,HTK.out,← HFIN.out.2,List.length_set,HFIN.out.1];rw [Int.toNat_natCast] at hst11;exact hst11,by rw [HSU.out.1,List.length_set,HFIN.out.1];exact hM16,by omega⟩
    case measure=>simp [intOf];omega
   ·subst hkd
    have hma:=hcl ga (by simp [ndsG,cmbB,opsG])
    have hoa:=hops ga (by simp [opsG])
    obtain ⟨va,hva⟩:∃ v,R.getD (ga).toNat (-1)=v:=⟨_,rfl⟩
    have hla:∀ U,Below w6.heap.size w6 U → (Instr.lookup 201 (.map (some bm)) (.int .i64 ga) false).run Tryz.prog U=.ok (.int .i64 va) U:=fun U hU=>by rw [← hva];exact (hst6.keep hU).mp.look hma (by omega) (by omega)
    have HLa:=Lib.hid hla
    have hmb:=hcl gb (by simp [ndsG,cmbB,opsG])
    have hob:=hops gb (by simp [opsG])
    obtain ⟨vb,hvb⟩:∃ v,R.getD (gb).toNat (-1)=v:=⟨_,rfl⟩
    have hlb:∀ U,Below w6.heap.size w6 U → (Instr.lookup 201 (.map (some bm)) (.int .i64 gb) false).run Tryz.prog U=.ok (.int .i64 vb) U:=fun U hU=>by rw [← hvb];exact (hst6.keep hU).mp.look hmb (by omega) (by omega)
    have HLb:=Lib.hid hlb
    have hins:insOf gs (dlyL gs) R (i:Int) r=⟨3,r,va,vb,0⟩:=by unfold insOf;rw [HGN.out,← hva,← hvb];rfl
    have HSU:=Lib.hid (HST.out r _ _ HRG2.out hins rfl)
    clear hins hops hgk hma hoa hva hla hmb hob hvb hlb
    have hA9:=alloc_below w6 (.cells #[.int .i64 0,.int .i64 r,.int .i64 0,.int .i64 0,.int .i64 0] 206)
    have kI:=Bk.new w6 206 #[.int .i64 0,.int .i64 r,.int .i64 0,.int .i64 0,.int .i64 0]
    have y0:=kG6.cell.1 0
    have y1:=kG6.cell.1 1
    have y2:=kG6.cell.1 2
    have y3:=kG6.cell.1 3
    have yz:=kG6.lt
    have kG7:=kG6.keep hA9
    simp only [List.getElem?_toArray,List.getElem?_cons_zero,List.getElem?_cons_succ] at y0 y1 y2 y3
    go_wp2_with fail
    clear y0 y1 y2 y3
    have hsz7:(w6.alloc (.cells #[.int .i64 0,.int .i64 r,.int .i64 0,.int .i64 0,.int .i64 0] 206)).heap.size=w6.heap.size+1:=World.size_alloc _ _
    generalize wr.heap.size+1=gk at *
    generalize hbi:w6.heap.size=bi at *
    generalize (w6.alloc (.cells #[.int .i64 0,.int .i64 r,.int .i64 0,.int .i64 0,.int .i64 0] 206))=w7 at *
    have y0:=kG7.cell.1 0
    have y1:=kG7.cell.1 1
    have y2:=kG7.cell.1 2
    have y3:=kG7.cell.1 3
    have y7:=kG7.lt
    have iz:=kI.lt
    have hgb:¬ gk=bi:=by omega
    have hgb2:¬ bi=gk:=by omega
    simp only [List.getElem?_toArray,List.getElem?_cons_zero,List.getElem?_cons_succ] at y0 y1 y2 y3
    have low:∀ {w':World},Exc (fun j=>j=bi) w7.drew w' → Below bi w6 w':=fun h=>hA9.trans (((Below.refl w7.heap.size w7).drew.mono (by omega)).trans (cz_low h (fun j hj=>by omega) (by simp only [World.size_drew];omega)))
    refine region_acts (C:=Exc ((fun j=>j=bi)) _) 14 [0,1,2,3,4,5,6,7,8,9,10,11,12,13] (by kernel_rfl) (by kernel_rfl) (Exc.grows _ _) (Exc.refl _ _) ?_
    iterate 3 (apply x_sT rfl rfl rfl;(focus intro u hc' hf';(try simp only [World.size_drew] at hc' hf');go_simp <;> rfl);intro K hK;go_simp;apply hK;clear hK K)
    refine x_still rfl rfl rfl (fun K hK=>?_)
    apply Exists.intro
    refine ⟨fun w' hw'=>?_,?_⟩
    ·have hlk2:=HLa.out w' (low hw')
     go_simp
     rfl
    go_simp
    refine hK _ _ _ ?_
    clear hK K
    iterate 3 (apply x_sT rfl rfl rfl;(focus intro u hc' hf';(try simp only [World.size_drew] at hc' hf');go_simp <;> rfl);intro K hK;go_simp;apply hK;clear hK K)
    refine x_still rfl rfl rfl (fun K hK=>?_)
    apply Exists.intro
    refine ⟨fun w' hw'=>?_,?_⟩
    ·have hlk2:=HLb.out w' (low hw')
     go_simp
     rfl
    go_simp
    refine hK _ _ _ ?_
    clear hK K
    iterate 1 (apply x_sT rfl rfl rfl;(focus intro u hc' hf';(try simp only [World.size_drew] at hc' hf');go_simp <;> rfl);intro K hK;go_simp;apply hK;clear hK K)
    refine x_do rfl rfl rfl (Exc.grows _ _) (Exc.refl _ _) (fun K hK=>?_)
    intro u1 hw1 hb1
    have kI1:=kI.keep ((Below.refl w7.heap.size w7).drew.trans (hb1.mono (by simp)))
    obtain ⟨m0,m1,m2⟩:=kI1.cell
    refine ⟨u1.setCell ⟨bi,0,none⟩ (.int .i64 3),?_,⟨exc_set hw1 (.inr rfl) _,by simp,fun j hN _ _=>by rw [Below.heap_setCell _ _ _ _ (fun h=>by simp at h;simp only [World.size_drew] at hN;omega)]⟩,?_⟩
    ·go_simp
    go_simp
    refine hK _ _ _ ?_
    clear hK K m0 m1 m2
    have kS1:Bk (u1.setCell ⟨bi,0,none⟩ (.int .i64 3)) bi 206 #[.int .i64 3,.int .i64 r,.int .i64 0,.int .i64 0,.int .i64 0]:=by simpa using kI1.set 0 (.int .i64 3)
    iterate 1 (apply x_sT rfl rfl rfl;(focus intro u hc' hf';(try simp only [World.size_drew] at hc' hf');go_simp <;> rfl);intro K hK;go_simp;apply hK;clear hK K)
    refine x_do rfl rfl rfl (Exc.grows _ _) (exc_set (a:=⟨bi,0,none⟩) hw1 (.inr rfl) (.int .i64 3)) (fun K hK=>?_)
    intro u2 hw2 hb2
    have kI2:=kS1.keep (hb2)
    obtain ⟨m0,m1,m2⟩:=kI2.cell
    refine ⟨u2.setCell ⟨bi,2,none⟩ (.int .i64 va),?_,⟨exc_set hw2 (.inr rfl) _,by simp,fun j hN _ _=>by rw [Below.heap_setCell _ _ _ _ (fun h=>by simp at h;simp only [World.size_drew] at hN;omega)]⟩,?_⟩
    ·go_simp
    go_simp
    refine hK _ _ _ ?_
    clear hK K m0 m1 m2
    have kS2:Bk (u2.setCell ⟨bi,2,none⟩ (.int .i64 va)) bi 206 #[.int .i64 3,.int .i64 r,.int .i64 va,.int .i64 0,.int .i64 0]:=by simpa using kI2.set 2 (.int .i64 va)
    iterate 1 (apply x_sT rfl rfl rfl;(focus intro u hc' hf';(try simp only [World.size_drew] at hc' hf');go_simp <;> rfl);intro K hK;go_simp;apply hK;clear hK K)
    refine x_do rfl rfl rfl (Exc.grows _ _) (exc_set (a:=⟨bi,2,none⟩) hw2 (.inr rfl) (.int .i64 va)) (fun K hK=>?_)
    intro u3 hw3 hb3
    have kI3:=kS2.keep (hb3)
    obtain ⟨m0,m1,m2⟩:=kI3.cell
    refine ⟨u3.setCell ⟨bi,3,none⟩ (.int .i64 vb),?_,⟨exc_set hw3 (.inr rfl) _,by simp,fun j hN _ _=>by rw [Below.heap_setCell _ _ _ _ (fun h=>by simp at h;simp only [World.size_drew] at hN;omega)]⟩,?_⟩
    ·go_simp
    go_simp
    refine hK _ _ _ ?_
    clear hK K m0 m1 m2
    have kS3:Bk (u3.setCell ⟨bi,3,none⟩ (.int .i64 vb)) bi 206 #[.int .i64 3,.int .i64 r,.int .i64 va,.int .i64 vb,.int .i64 0]:=by simpa using kI3.set 3 (.int .i64 vb)
    refine x_nil ?_
    have hbf:=low (exc_set (a:=⟨bi,3,none⟩) hw3 (.inr rfl) (.int .i64 vb))
    generalize (u3.setCell ⟨bi,3,none⟩ (.int .i64 vb))=w8 at *
    subst hbi
    have hst12:=hst6.keep hbf
    have kI:=kS3
    obtain ⟨i0,-,iz9⟩:=kI.cell
    have i1:=i0 1
    have i2:=i0 2
    have i3:=i0 3
    have i4:=i0 4
    have i0:=i0 0
    have p4:=hst12.kx.cell.1 4
    have pz:=hst12.kx.lt
    simp only [List.getElem?_toArray,List.getElem?_cons_zero,List.getElem?_cons_succ] at p4 i0 i1 i2 i3 i4
    have hA10:=alloc_below w8 (.cells #[.int .i64 3,.int .i64 r,.int .i64 va,.int .i64 vb,.int .i64 0] 206)
    have hst7:=hst12.keep hA10
    have hone:=inst_one w8 ⟨3,r,va,vb,0⟩
    clear y0 y1 y2 y3 y7 yz iz hA9 hA10 hst6 hst12 kG6 kG7 hbf low kI kI1 kS1 hw1 hb1 kI2 kS2 hw2 hb2 kI3 kS3 hw3 hb3
    have hP7:=hst7.rp
    have hsz7:=hst7.bel.size
    have HS7:=Lib.hid hst7
    clear hst7
    go_wp2_with (first|(have hq1:=hone;at_builtin;go_must (refine ins_append hq1 rfl (.tmp 99) (.tmp 101) rfl w3.heap.size vp P rfl rfl hP7 hsz7 (by simp only [List.length_singleton];omega) ?_);intro v8 w8 q1 q2 q3;clear hone hq1;obtain ⟨va8,vc8,hve⟩:=q1.slice;rw [List.length_append,List.length_singleton,hIcl] at hve;subst hve;have hst8:=HS7.out.putP q2 q1;have hst9:=hst8.setH (heldL_len h16) hr16 i;obtain ⟨kl8,kx8,rh8,mp8,hbel8⟩:=HS7.out.growP q2 q1;obtain ⟨⟨d1,f1⟩,-⟩:=Rw.put rh8 (n:=16) (heldL_len h16) (k:=r) hr16 0;have n1:w3.heap.size+1 ≠ hq:=(fun e=>row_blk_ne rh8 kx8 (by decide) (by simp [Value.ownBlock,e]));have n2:hq ≠ w3.heap.size+1:=(fun e=>n1 e.symm);have z1:=cell_lt d1;have zx:=kx8.lt;have fx:=kx8.cell.2.1 4;have xx:=kx8.cell.1 4;simp only [List.getElem?_toArray,List.getElem?_cons_zero,List.getElem?_cons_succ] at xx;obtain ⟨D,hown,hmn⟩:=hst9.mp;have HMN:=Lib.hid hmn;have HS9:=Lib.hid hst9;clear hst8 hst9 kl8 kx8 rh8 mp8 hbel8 hmn)|(have hq2:=hown;at_mapUpdate;go_must (refine wpList_mapUpdate_own _ rfl _ _ _ 201 rfl 3 3 kInt Tryz.underlying201 _ bm n D rfl hq2 (by unfold maxLen;omega) _ _ _ rfl rfl (kI_key (i:=(i:Int)) (by omega) (by omega)) _ [] (plainElem_int Tryz.underlying3 (kI_wf (i:=(r:Int)) (by omega) (by omega))) ?_);intro w9 hown9 hgrow9;have hst10:=HS9.out.putM hgrow9 ⟨_,hown9,mn_put HMN.out hq2.isMap (by omega) (by rw [hIrl];omega) HKS.out⟩;clear hown hq2;have g3:=hst10.kx.cell.1 3;have gf3:=hst10.kx.cell.2.1 3;have gz:=hst10.kx.lt;simp only [List.getElem?_toArray,List.getElem?_cons_zero,List.getElem?_cons_succ] at g3;have HS10:=Lib.hid hst10;clear hst10))
    have hst11:=HS10.out.setN (M:Int)
    go_roundw
    case rel=>exact ⟨k+1,by omega,by go_num,_,n+1,by rw [HSU.out.1,HSU.out.2.1,HSU.out.2.2,HTK.out,← HFIN.out.2,List.length_set,HFIN.out.1];rw [Int.toNat_natCast] at hst11;exact hst11,by rw [HSU.out.1,List.length_set,HFIN.out.1];exact hM16,by omega⟩
    case measure=>simp [intOf];omega
   ·subst hkd
    have hma:=hcl ga (by simp [ndsG,cmbB,opsG])
    have hoa:=hops ga (by simp [opsG])
    obtain ⟨va,hva⟩:∃ v,R.getD (ga).toNat (-1)=v:=⟨_,rfl⟩
    have hla:∀ U,Below w6.heap.size w6 U → (Instr.lookup 201 (.map (some bm)) (.int .i64 ga) false).run Tryz.prog U=.ok (.int .i64 va) U:=fun U hU=>by rw [← hva];exact (hst6.keep hU).mp.look hma (by omega) (by omega)
    have HLa:=Lib.hid hla
    have hins:insOf gs (dlyL gs) R (i:Int) r=⟨4,r,va,0,gv⟩:=by unfold insOf;rw [HGN.out,← hva];rfl
    have HSU:=Lib.hid (HST.out r _ _ HRG2.out hins rfl)
    clear hins hops hgk hma hoa hva hla
    have hA9:=alloc_below w6 (.cells #[.int .i64 0,.int .i64 r,.int .i64 0,.int .i64 0,.int .i64 0] 206)
    have kI:=Bk.new w6 206 #[.int .i64 0,.int .i64 r,.int .i64 0,.int .i64 0,.int .i64 0]
    have y0:=kG6.cell.1 0
    have y1:=kG6.cell.1 1
    have y2:=kG6.cell.1 2
    have y3:=kG6.cell.1 3
    have yz:=kG6.lt
    have kG7:=kG6.keep hA9
    simp only [List.getElem?_toArray,List.getElem?_cons_zero,List.getElem?_cons_succ] at y0 y1 y2 y3
    go_wp2_with fail
    clear y0 y1 y2 y3
    have hsz7:(w6.alloc (.cells #[.int .i64 0,.int .i64 r,.int .i64 0,.int .i64 0,.int .i64 0] 206)).heap.size=w6.heap.size+1:=World.size_alloc _ _
    generalize wr.heap.size+1=gk at *
    generalize hbi:w6.heap.size=bi at *
    generalize (w6.alloc (.cells #[.int .i64 0,.int .i64 r,.int .i64 0,.int .i64 0,.int .i64 0] 206))=w7 at *
    have y0:=kG7.cell.1 0
    have y1:=kG7.cell.1 1
    have y2:=kG7.cell.1 2
    have y3:=kG7.cell.1 3
    have y7:=kG7.lt
    have iz:=kI.lt
    have hgb:¬ gk=bi:=by omega
    have hgb2:¬ bi=gk:=by omega
    simp only [List.getElem?_toArray,List.getElem?_cons_zero,List.getElem?_cons_succ] at y0 y1 y2 y3
    have low:∀ {w':World},Exc (fun j=>j=bi) w7.drew w' → Below bi w6 w':=fun h=>hA9.trans (((Below.refl w7.heap.size w7).drew.mono (by omega)).trans (cz_low h (fun j hj=>by omega) (by simp only [World.size_drew];omega)))
    refine region_acts (C:=Exc ((fun j=>j=bi)) _) 12 [0,1,2,3,4,5,6,7,8,9,10,11] (by kernel_rfl) (by kernel_rfl) (Exc.grows _ _) (Exc.refl _ _) ?_
    iterate 3 (apply x_sT rfl rfl rfl;(focus intro u hc' hf';(try simp only [World.size_drew] at hc' hf');go_simp <;> rfl);intro K hK;go_simp;apply hK;clear hK K)
    refine x_still rfl rfl rfl (fun K hK=>?_)
    apply Exists.intro
    refine ⟨fun w' hw'=>?_,?_⟩
    ·have hlk2:=HLa.out w' (low hw')
     go_simp
     rfl
    go_simp
    refine hK _ _ _ ?_
    clear hK K
    iterate 3 (apply x_sT rfl rfl rfl;(focus intro u hc' hf';(try simp only [World.size_drew] at hc' hf');go_simp <;> rfl);intro K hK;go_simp;apply hK;clear hK K)
    refine x_do rfl rfl rfl (Exc.grows _ _) (Exc.refl _ _) (fun K hK=>?_)
    intro u1 hw1 hb1
    have kI1:=kI.keep ((Below.refl w7.heap.size w7).drew.trans (hb1.mono (by simp)))
    obtain ⟨m0,m1,m2⟩:=kI1.cell
    refine ⟨u1.setCell ⟨bi,0,none⟩ (.int .i64 4),?_,⟨exc_set hw1 (.inr rfl) _,by simp,fun j hN _ _=>by rw [Below.heap_setCell _ _ _ _ (fun h=>by simp at h;simp only [World.size_drew] at hN;omega)]⟩,?_⟩
    ·go_simp
    go_simp
    refine hK _ _ _ ?_
    clear hK K m0 m1 m2
    have kS1:Bk (u1.setCell ⟨bi,0,none⟩ (.int .i64 4)) bi 206 #[.int .i64 4,.int .i64 r,.int .i64 0,.int .i64 0,.int .i64 0]:=by simpa using kI1.set 0 (.int .i64 4)
    iterate 1 (apply x_sT rfl rfl rfl;(focus intro u hc' hf';(try simp only [World.size_drew] at hc' hf');go_simp <;> rfl);intro K hK;go_simp;apply hK;clear hK K)
    refine x_do rfl rfl rfl (Exc.grows _ _) (exc_set (a:=⟨bi,0,none⟩) hw1 (.inr rfl) (.int .i64 4)) (fun K hK=>?_)
    intro u2 hw2 hb2
    have kI2:=kS1.keep (hb2)
    obtain ⟨m0,m1,m2⟩:=kI2.cell
    refine ⟨u2.setCell ⟨bi,2,none⟩ (.int .i64 va),?_,⟨exc_set hw2 (.inr rfl) _,by simp,fun j hN _ _=>by rw [Below.heap_setCell _ _ _ _ (fun h=>by simp at h;simp only [World.size_drew] at hN;omega)]⟩,?_⟩
    ·go_simp
    go_simp
    refine hK _ _ _ ?_
    clear hK K m0 m1 m2
    have kS2:Bk (u2.setCell ⟨bi,2,none⟩ (.int .i64 va)) bi 206 #[.int .i64 4,.int .i64 r,.int .i64 va,.int .i64 0,.int .i64 0]:=by simpa using kI2.set 2 (.int .i64 va)
    iterate 1 (apply x_sT rfl rfl rfl;(focus intro u hc' hf';(try simp only [World.size_drew] at hc' hf');go_simp <;> rfl);intro K hK;go_simp;apply hK;clear hK K)
    refine x_do rfl rfl rfl (Exc.grows _ _) (exc_set (a:=⟨bi,2,none⟩) hw2 (.inr rfl) (.int .i64 va)) (fun K hK=>?_)
    intro u3 hw3 hb3
    have kI3:=kS2.keep (hb3)
    obtain ⟨m0,m1,m2⟩:=kI3.cell
    refine ⟨u3.setCell ⟨bi,4,none⟩ (.int .i64 gv),?_,⟨exc_set hw3 (.inr rfl) _,by simp,fun j hN _ _=>by rw [Below.heap_setCell _ _ _ _ (fun h=>by simp at h;simp only [World.size_drew] at hN;omega)]⟩,?_⟩
    ·go_simp
    go_simp
    refine hK _ _ _ ?_
    clear hK K m0 m1 m2
    have kS3:Bk (u3.setCell ⟨bi,4,none⟩ (.int .i64 gv)) bi 206 #[.int .i64 4,.int .i64 r,.int .i64 va,.int .i64 0,.int .i64 gv]:=by simpa using kI3.set 4 (.int .i64 gv)
    refine x_nil ?_
    have hbf:=low (exc_set (a:=⟨bi,4,none⟩) hw3 (.inr rfl) (.int .i64 gv))
    generalize (u3.setCell ⟨bi,4,none⟩ (.int .i64 gv))=w8 at *
    subst hbi
    have hst12:=hst6.keep hbf
    have kI:=kS3
    obtain ⟨i0,-,iz9⟩:=kI.cell
    have i1:=i0 1
    have i2:=i0 2
    have i3:=i0 3
    have i4:=i0 4
    have i0:=i0 0
    have p4:=hst12.kx.cell.1 4
    have pz:=hst12.kx.lt
    simp only [List.getElem?_toArray,List.getElem?_cons_zero,List.getElem?_cons_succ] at p4 i0 i1 i2 i3 i4
    have hA10:=alloc_below w8 (.cells #[.int .i64 4,.int .i64 r,.int .i64 va,.int .i64 0,.int .i64 gv] 206)
    have hst7:=hst12.keep hA10
    have hone:=inst_one w8 ⟨4,r,va,0,gv⟩
    clear y0 y1 y2 y3 y7 yz iz hA9 hA10 hst6 hst12 kG6 kG7 hbf low kI kI1 kS1 hw1 hb1 kI2 kS2 hw2 hb2 kI3 kS3 hw3 hb3
    have hP7:=hst7.rp
    have hsz7:=hst7.bel.size
    have HS7:=Lib.hid hst7
    clear hst7
    go_wp2_with (first|(have hq1:=hone;at_builtin;go_must (refine ins_append hq1 rfl (.tmp 99) (.tmp 101) rfl w3.heap.size vp P rfl rfl hP7 hsz7 (by simp only [List.length_singleton];omega) ?_);intro v8 w8 q1 q2 q3;clear hone hq1;obtain ⟨va8,vc8,hve⟩:=q1.slice;rw [List.length_append,List.length_singleton,hIcl] at hve;subst hve;have hst8:=HS7.out.putP q2 q1;have hst9:=hst8.setH (heldL_len h16) hr16 i;obtain ⟨kl8,kx8,rh8,mp8,hbel8⟩:=HS7.out.growP q2 q1;obtain ⟨⟨d1,f1⟩,-⟩:=Rw.put rh8 (n:=16) (heldL_len h16) (k:=r) hr16 0;have n1:w3.heap.size+1 ≠ hq:=(fun e=>row_blk_ne rh8 kx8 (by decide) (by simp [Value.ownBlock,e]));have n2:hq ≠ w3.heap.size+1:=(fun e=>n1 e.symm);have z1:=cell_lt d1;have zx:=kx8.lt;have fx:=kx8.cell.2.1 4;have xx:=kx8.cell.1 4;simp only [List.getElem?_toArray,List.getElem?_cons_zero,List.getElem?_cons_succ] at xx;obtain ⟨D,hown,hmn⟩:=hst9.mp;have HMN:=Lib.hid hmn;have HS9:=Lib.hid hst9;clear hst8 hst9 kl8 kx8 rh8 mp8 hbel8 hmn)|(have hq2:=hown;at_mapUpdate;go_must (refine wpList_mapUpdate_own _ rfl _ _ _ 201 rfl 3 3 kInt Tryz.underlying201 _ bm n D rfl hq2 (by unfold maxLen;omega) _ _ _ rfl rfl (kI_key (i:=(i:Int)) (by omega) (by omega)) _ [] (plainElem_int Tryz.underlying3 (kI_wf (i:=(r:Int)) (by omega) (by omega))) ?_);intro w9 hown9 hgrow9;have hst10:=HS9.out.putM hgrow9 ⟨_,hown9,mn_put HMN.out hq2.isMap (by omega) (by rw [hIrl];omega) HKS.out⟩;clear hown hq2;have g3:=hst10.kx.cell.1 3;have gf3:=hst10.kx.cell.2.1 3;have gz:=hst10.kx.lt;simp only [List.getElem?_toArray,List.getElem?_cons_zero,List.getElem?_cons_succ] at g3;have HS10:=Lib.hid hst10;clear hst10))
    have hst11:=HS10.out.setN (M:Int)
    go_roundw
    case rel=>exact ⟨k+1,by omega,by go_num,_,n+1,by rw [HSU.out.1,HSU.out.2.1,HSU.out.2.2,HTK.out,← HFIN.out.2,List.length_set,HFIN.out.1];rw [Int.toNat_natCast] at hst11;exact hst11,by rw [HSU.out.1,List.length_set,HFIN.out.1];exact hM16,by omega⟩
    case measure=>simp [intOf];omega
   ·subst hkd
    have hmd:(i:Int) ∈ dlyL gs:=mem_dly (by omega) (by omega) (by rw [HGN.out])
    obtain ⟨x,hxx⟩:∃ x,dix (dlyL gs) (i:Int)=x:=⟨_,rfl⟩
    have hix:=fun (U:World) (hU:Below w6.heap.size w6 U)=>index_any _ (dlyL gs) i U ((hvd2.keep hst6.bel).keep hU).at (by omega)
    rw [fiV_dix hmd,hxx] at hix
    have HIX:=Lib.hid (hix _ (alloc_below w6 (.cells #[.int .i64 0,.int .i64 r,.int .i64 0,.int .i64 0,.int .i64 0] 206)))
    have hins:insOf gs (dlyL gs) R (i:Int) r=⟨5,r,x,0,0⟩:=by unfold insOf;rw [HGN.out];rw [hxx];rfl
    have HSU:=Lib.hid (HST.out r _ _ HRG2.out hins rfl)
    clear hins hops hgk hxx hix hmd
    have hA9:=alloc_below w6 (.cells #[.int .i64 5,.int .i64 r,.int .i64 x,.int .i64 0,.int .i64 0] 206)
    have hA10:=alloc_below (w6.alloc (.cells #[.int .i64 5,.int .i64 r,.int .i64 x,.int .i64 0,.int .i64 0] 206)) (.cells #[.int .i64 5,.int .i64 r,.int .i64 x,.int .i64 0,.int .i64 0] 206)
    have hst7:=(hst6.keep hA9).keep hA10
    have y0:=kG6.cell.1 0
    have y1:=kG6.cell.1 1
    have y2:=kG6.cell.1 2
    have y3:=kG6.cell.1 3
    have yz:=kG6.lt
    have p4:=hst6.kx.cell.1 4
    have pz:=hst6.kx.lt
    simp only [List.getElem?_toArray,List.getElem?_cons_zero,List.getElem?_cons_succ] at y0 y1 y2 y3 p4
    have hone:=inst_one (w6.alloc (.cells #[.int .i64 5,.int .i64 r,.int .i64 x,.int .i64 0,.int .i64 0] 206)) ⟨5,r,x,0,0⟩
    rw [World.size_alloc] at hone
    clear hA9 hA10 hst6 kG6
    have hP7:=hst7.rp
    have hsz7:=hst7.bel.size
    have HS7:=Lib.hid hst7
    clear hst7
    go_wp2_with (first|(go_at_call 153;refine HIX.out.mono ?_;rintro e2 w7 ⟨rfl,rfl⟩)|(have hq1:=hone;at_builtin;go_must (refine ins_append hq1 rfl (.tmp 99) (.tmp 101) rfl w3.heap.size vp P rfl rfl hP7 hsz7 (by simp only [List.length_singleton];omega) ?_);intro v8 w8 q1 q2 q3;clear hone hq1;obtain ⟨va8,vc8,hve⟩:=q1.slice;rw [List.length_append,List.length_singleton,hIcl] at hve;subst hve;have hst8:=HS7.out.putP q2 q1;have hst9:=hst8.setH (heldL_len h16) hr16 i;obtain ⟨kl8,kx8,rh8,mp8,hbel8⟩:=HS7.out.growP q2 q1;obtain ⟨⟨d1,f1⟩,-⟩:=Rw.put rh8 (n:=16) (heldL_len h16) (k:=r) hr16 0;have n1:w3.heap.size+1 ≠ hq:=(fun e=>row_blk_ne rh8 kx8 (by decide) (by simp [Value.ownBlock,e]));have n2:hq ≠ w3.heap.size+1:=(fun e=>n1 e.symm);have z1:=cell_lt d1;have zx:=kx8.lt;have fx:=kx8.cell.2.1 4;have xx:=kx8.cell.1 4;simp only [List.getElem?_toArray,List.getElem?_cons_zero,List.getElem?_cons_succ] at xx;obtain ⟨D,hown,hmn⟩:=hst9.mp;have HMN:=Lib.hid hmn;have HS9:=Lib.hid hst9;clear hst8 hst9 kl8 kx8 rh8 mp8 hbel8 hmn)|(have hq2:=hown;at_mapUpdate;go_must (refine wpList_mapUpdate_own _ rfl _ _ _ 201 rfl 3 3 kInt Tryz.underlying201 _ bm n D rfl hq2 (by unfold maxLen;omega) _ _ _ rfl rfl (kI_key (i:=(i:Int)) (by omega) (by omega)) _ [] (plainElem_int Tryz.underlying3 (kI_wf (i:=(r:Int)) (by omega) (by omega))) ?_);intro w9 hown9 hgrow9;have hst10:=HS9.out.putM hgrow9 ⟨_,hown9,mn_put HMN.out hq2.isMap (by omega) (by rw [hIrl];omega) HKS.out⟩;clear hown hq2;have g3:=hst10.kx.cell.1 3;have gf3:=hst10.kx.cell.2.1 3;have gz:=hst10.kx.lt;simp only [List.getElem?_toArray,List.getElem?_cons_zero,List.getElem?_cons_succ] at g3;have HS10:=Lib.hid hst10;clear hst10))
    have hst11:=HS10.out.setN (M:Int)
    go_roundw
    case rel=>exact ⟨k+1,by omega,by go_num,_,n+1,by rw [HSU.out.1,HSU.out.2.1,HSU.out.2.2,HTK.out,← HFIN.out.2,List.length_set,HFIN.out.1];rw [Int.toNat_natCast] at hst11;exact hst11,by rw [HSU.out.1,List.length_set,HFIN.out.1];exact hM16,by omega⟩
    case measure=>simp [intOf];omega
  ·rw [if_neg hr16] at hif
   have HIF:=Lib.hid hif
   have HF:=Lib.hid (HOV.out hr16)
   have hB9:=hB.trans (hst2.bel.mono hB.size)
   have kZ9:=kZ.keep hst2.bel
   clear hif hfind hA7 hA8 kA hst hst2 hhz hHn hrg kG xk
   go_wp2_with fail
   refine HIF.out.mono ?_
   rintro e w6 ⟨rfl,hb6⟩
   have hB10:=hB9.trans (hb6.mono hB9.size)
   obtain ⟨z0,zf,zz⟩:=(kZ9.keep hb6).cell
   have z1:=z0 1
   have z2:=z0 2
   have z3:=z0 3
   have z4:=z0 4
   have z0:=z0 0
   simp only [List.getElem?_toArray,List.getElem?_cons_zero,List.getElem?_cons_succ] at z0 z1 z2 z3 z4
   have hb5:=fun u0 u1 u2 u3 u4=>(((((hB10.setCell (p:=⟨w.heap.size+1,0,none⟩) (by simp) u0).setCell (p:=⟨w.heap.size+1,1,none⟩) (by simp) u1).setCell (p:=⟨w.heap.size+1,2,none⟩) (by simp) u2).setCell (p:=⟨w.heap.size+1,3,none⟩) (by simp) u3).setCell (p:=⟨w.heap.size+1,4,none⟩) (by simp) u4)
   have HB5:=Lib.hid hb5
   clear hb5 HIF kZ9 c0 c1 c2 c3 x1 xz bz dz d0
   go_wp2
   refine bodyPost_ret (v:=.tuple #[.agg #[.int .i64 0,.int .i64 0,.int .i64 0,.int .i64 0,.slice none 0 0],.bool false]) (by simp [results,Tryz.results71,go_sem,z0,z1,z2,z3,z4,zf,zz]) rfl ?_
   exact ⟨_,by rw [HF.out],HB5.out _ _ _ _ _,fun _=>rfl,fun h=>(by rw [HF.out] at h;cases h)⟩
 have hI:=cm_inv HH.out (listL gs os).length (Nat.le_refl _)
 obtain rfl:k=(listL gs os).length:=by omega
 rw [List.take_length] at hst
 change CmV w3 (.slice ua gs.length uc) bm n inp os.length (dlyL gs).length (cmEnd gs os).holds.length wr (.slice (some ⟨hq,0,none⟩) 16 hqc) vp (heldL (cmEnd gs os).holds) (cmEnd gs os).reg (listL gs os) (cmEnd gs os).code at hst
 change CmI p inp gs os (listL gs os).length (cmEnd gs os) at hI
 change (cmEnd gs os).holds.length≤16 at h16
 obtain ⟨s,hs⟩:∃ s,cmEnd gs os=s:=⟨_,rfl⟩
 rw [hs] at hst hI h16
 obtain ⟨H,R,P⟩:=s
 have HS:=Lib.hid hs
 obtain ⟨hIrl,hIho,hIrg,hIcl,hIhl,-⟩:=hI
 simp only at hst hIrl hIcl hIhl h16
 clear hs hIho hIrg
 clear hlk
 go_wp2_with fail
 go_loopw [120] (fun q wr=>∃ k2:Nat,k2≤(dlyL gs).length∧q=.int .i64 k2∧∃ vp,CmV w3 (.slice ua gs.length uc) bm n inp os.length (dlyL gs).length H.length wr (.slice (some ⟨hq,0,none⟩) 16 hqc) vp (heldL H) R (listL gs os) (P ++ stoL gs (dlyL gs) R k2)) (fun q _=>(dlyL gs).length - (intOf q).toNat)
 case atStart=>exact ⟨0,Nat.zero_le _,rfl,vp,by rw [show stoL gs (dlyL gs) R 0=[] from rfl,List.append_nil];exact hst⟩
 case round =>
 clear hst
 obtain ⟨k2,hk2,rfl,vp2,hst⟩:=hrel
 by_cases hlk2:k2<(dlyL gs).length
 ·obtain ⟨db,dq,rfl,d0⟩:=ints_cell (hvd2.keep hst.bel).at hlk2
  have hir:=dly_mem (List.getElem_mem hlk2)
  have hca:=ci_dly HH.out (List.getElem_mem hlk2)
  have hml:=list_dly (os:=os) (List.getElem_mem hlk2)
  have hsucc:=stoL_succ gs (dlyL gs) R k2
  rw [show (dlyL gs).getD k2 0=(dlyL gs)[k2] by rw [List.getD_eq_getElem?_getD,List.getElem?_eq_getElem hlk2];rfl] at hsucc
  obtain ⟨i,hii⟩:∃ i:Nat,(dlyL gs)[k2]=i:=⟨((dlyL gs)[k2]).toNat,by omega⟩
  rw [hii] at d0 hir hca hsucc hml
  have hi:i<gs.length:=by omega
  rw [gNo_get hi] at hca hsucc hml
  have c1:=((HAT.out i hi).keep (hB.trans (hst.bel.mono hB.size))).2.1
  generalize (gs[i]).a=ga at c1 hca hsucc hml
  obtain ⟨va,hva⟩:∃ v,R.getD ga.toNat (-1)=v:=⟨_,rfl⟩
  rw [hva] at hsucc
  have hla:∀ U,Below wr.heap.size wr U → (Instr.lookup 201 (.map (some bm)) (.int .i64 ga) false).run Tryz.prog U=.ok (.int .i64 va) U:=fun U hU=>by rw [← hva];exact (hst.keep hU).mp.look hml (by omega) (by omega)
  have HLA:=Lib.hid hla
  have HSC:=Lib.hid hsucc
  have bz:=cell_lt c1
  have hi3:(i:Int)<(gs.length:Int):=by omega
  clear hsucc hii hir hca hml hla hva
  have hPL:(P ++ stoL gs (dlyL gs) R k2).length=(listL gs os).length+k2:=by rw [List.length_append,hIcl];simp [stoL]
  have HPL:=Lib.hid hPL
  obtain ⟨pa,pc,hvp⟩:=hst.rp.slice
  rw [hPL] at hvp
  subst hvp
  generalize hPP:P ++ stoL gs (dlyL gs) R k2=PP at *
  generalize hN:(listL gs os).length+k2=N at *
  have hNN:N≤1000:=by omega
  have xk:=kC.keep hst.bel
  have x1:=xk.cell.1 1
  have xz:=xk.lt
  have p4:=hst.kx.cell.1 4
  have pz:=hst.kx.lt
  simp only [List.getElem?_toArray,List.getElem?_cons_zero,List.getElem?_cons_succ] at x1 p4
  have dz:=cell_lt d0
  go_wp2_with fail
  have up1:∀ {w':World},Exc NoT wr.drew w' → Below wr.heap.size wr w':=fun h=>(Below.refl wr.heap.size wr).drew.trans (h.toBelow.mono (by simp))
  refine region_acts2 (C:=Exc (NoT) _) 16 [0,1,2,3,4,5,6,7,8,9,10,11,12] [13,14,15] (by kernel_rfl) (by kernel_rfl) (Exc.grows _ _) (Exc.refl _ _) ?_
  iterate 10 (apply x_st rfl rfl rfl;(focus intro u hc' hf';go_simp <;> rfl);intro K hK;go_simp;apply hK;clear hK K)
  refine x_still rfl rfl rfl (fun K hK=>?_)
  apply Exists.intro
  refine ⟨fun w' hw'=>?_,?_⟩
  ·have hlk3:=HLA.out w' (up1 hw')
   go_simp
   rfl
  go_simp
  refine hK _ _ _ ?_
  clear hK K
  iterate 1 (apply x_st rfl rfl rfl;(focus intro u hc' hf';go_simp <;> rfl);intro K hK;go_simp;apply hK;clear hK K)
  refine x_make rfl rfl rfl (Exc.grows _ _) (Exc.refl _ _) (fun b=>.slice (some ⟨b,0,none⟩) 1 1) (fun K hK=>?_)
  apply Exists.intro
  refine ⟨fun w' hw'=>?_,fun bb w5 hw5 hb45 hbo hNb hnb=>?_⟩
  ·obtain ⟨hc',hf'⟩:=hw'.cell
   try simp only [World.size_drew] at hc' hf'
   go_simp
   rfl
  go_simp
  refine hK _ _ _ ?_
  clear hK K
  refine x_nil ?_
  have hb15:Below wr.heap.size wr w5:=up1 hw5
  have hst5:=hst.keep hb15
  have hle5:=hst5.bel.size
  refine ⟨Exc (fun j=>j=w3.heap.size+1∨(Value.slice pa N pc).ownBlock=some j) w5,w5.heap.size,Exc.grows _ _,Exc.refl _ _,?_⟩
  refine x_insapp rfl rfl rfl (Exc.refl _ _) (.tmp 126) (.tmp 137) rfl w3.heap.size (.slice pa N pc) PP [⟨6,va,k2,0,0⟩] bb 1 1 rfl rfl rfl (fun j hj=>.inl ⟨(World.ownsRow.lt hst5.rp j hj).2,.inr hj⟩) hle5 (by rw [HPL.out];omega) hst5.rp (by simpa [inCells] using hbo) ?_
  intro K hK w6 w7 v7 hw6 hb56 hed hgr hw7 hv7
  obtain ⟨a7,c7,hv7e⟩:=hed.slice
  rw [List.length_append,List.length_singleton,HPL.out] at hv7e
  subst hv7e
  go_simp
  refine hK _ _ _ ?_
  clear hK K
  iterate 1 (apply x_sT rfl rfl rfl;(focus intro u hc' hf';(try simp only [World.size_drew] at hc' hf');go_simp <;> rfl);intro K hK;go_simp;apply hK;clear hK K)
  refine x_do rfl rfl rfl (Exc.grows _ _) hw7 (fun K hK=>?_)
  intro w8 hw8 hb78
  have hst6:=hst5.keep hb56
  obtain ⟨kl7,kx7,rh7,mp7,bel7⟩:=hst6.growP hgr hed
  have hst9:=CmV.mk4 (kl7.keep hb78) (kx7.keep hb78) (rh7.keep hb78) (mp7.keep hb78) hst6.mb (hed.keep hb78) (bel7.trans (hb78.mono bel7.size))
  obtain ⟨m0,m1,m2⟩:=(kx7.keep hb78).cell
  have hbig:w3.heap.size+1<w5.heap.size:=hst5.kx.lt
  refine ⟨w8.setCell ⟨w3.heap.size+1,4,none⟩ (.slice a7 (N+1) c7),?_,⟨exc_set hw8 (.inr (.inl rfl)) _,by simp,fun j hN _ _=>by rw [Below.heap_setCell _ _ _ _ (fun h=>by simp at h;omega)]⟩,?_⟩
  ·go_simp
  go_simp
  refine hK _ _ _ ?_
  clear hK K
  refine x_nil ?_
  have HS9:=Lib.hid hst9
  generalize (w8.setCell ⟨w3.heap.size+1,4,none⟩ (.slice a7 (N+1) c7))=W9 at *
  clear hst5 kl7 kx7 rh7 mp7 bel7 hst6 hst9 m0 m1 m2 hed hgr hv7 hb15 hst x1 xz p4 pz d0 dz
  go_wp2
  go_roundw
  case rel=>exact ⟨k2+1,by omega,by go_num,_,by rw [HSC.out,← List.append_assoc,hPP];exact HS9.out⟩
  case measure=>simp [intOf];omega
 obtain rfl:k2=(dlyL gs).length:=by omega
 clear hlk2
 have xk:=kC.keep hst.bel
 have x2:=xk.cell.1 2
 have xz:=xk.lt
 simp only [List.getElem?_toArray,List.getElem?_cons_zero,List.getElem?_cons_succ] at x2
 go_wp2_with fail
 go_loopw [144] (fun q wr=>∃ k2:Nat,k2≤os.length∧q=.int .i64 k2∧∃ vp,CmV w3 (.slice ua gs.length uc) bm n inp os.length (dlyL gs).length H.length wr (.slice (some ⟨hq,0,none⟩) 16 hqc) vp (heldL H) R (listL gs os) ((P ++ stoL gs (dlyL gs) R (dlyL gs).length) ++ outL os R k2)) (fun q _=>os.length - (intOf q).toNat)
 case atStart=>exact ⟨0,Nat.zero_le _,rfl,vp2,by rw [show outL os R 0=[] from rfl,List.append_nil];exact hst⟩
 case round =>
 clear hst x2 xz xk
 obtain ⟨k2,hk2,rfl,vp3,hst⟩:=hrel
 by_cases hlk2:k2<os.length
 ·obtain ⟨db,dq,rfl,d0⟩:=ints_cell (HO.out.keep (hB.trans (hst.bel.mono hB.size))) hlk2
  have hir:=HH.out.orange _ (List.getElem_mem hlk2)
  have hml:=list_out (gs:=gs) (List.getElem_mem hlk2)
  have hsucc:=outL_succ os R k2
  rw [show os.getD k2 0=os[k2] by rw [List.getD_eq_getElem?_getD,List.getElem?_eq_getElem hlk2];rfl] at hsucc
  generalize os[k2]=ga at d0 hir hml hsucc
  obtain ⟨va,hva⟩:∃ v,R.getD ga.toNat (-1)=v:=⟨_,rfl⟩
  rw [hva] at hsucc
  have hla:(Instr.lookup 201 (.map (some bm)) (.int .i64 ga) false).run Tryz.prog wr=.ok (.int .i64 va) wr:=by rw [← hva];exact hst.mp.look hml (by omega) (by omega)
  have HSC:=Lib.hid hsucc
  clear hsucc hir hml hva
  have hPL:((P ++ stoL gs (dlyL gs) R (dlyL gs).length) ++ outL os R k2).length=(listL gs os).length+(dlyL gs).length+k2:=by rw [List.length_append,List.length_append,hIcl];simp [stoL,outL]
  have HPL:=Lib.hid hPL
  obtain ⟨pa,pc,hvp⟩:=hst.rp.slice
  rw [hPL] at hvp
  subst hvp
  generalize hPP:(P ++ stoL gs (dlyL gs) R (dlyL gs).length) ++ outL os R k2=PP at *
  generalize hN:(listL gs os).length+(dlyL gs).length+k2=N at *
  have hNN:N≤1000:=by omega
  have p4:=hst.kx.cell.1 4
  have pz:=hst.kx.lt
  simp only [List.getElem?_toArray,List.getElem?_cons_zero,List.getElem?_cons_succ] at p4
  have dz:=cell_lt d0
  have hA9:=alloc_below wr (.cells #[.int .i64 7,.int .i64 va,.int .i64 k2,.int .i64 0,.int .i64 0] 206)
  have hst7:=hst.keep hA9
  have hone:=inst_one wr ⟨7,va,k2,0,0⟩
  have hP7:=hst7.rp
  have hsz7:=hst7.bel.size
  have HS7:=Lib.hid hst7
  clear hst7 hA9 hst hPL
  go_wp2_with (at_builtin;go_must (refine ins_append hone rfl (.tmp 150) (.tmp 156) rfl w3.heap.size _ PP rfl rfl hP7 hsz7 (by rw [HPL.out];simp only [List.length_singleton];omega) ?_);intro v8 w8 q1 q2 q3;obtain ⟨va8,vc8,hve⟩:=q1.slice;rw [List.length_append,List.length_singleton,HPL.out] at hve;subst hve;have hst8:=HS7.out.putP q2 q1;obtain ⟨-,kx8,-,-,-⟩:=HS7.out.growP q2 q1;have zx:=kx8.lt;have fx:=kx8.cell.2.1 4;have xx:=kx8.cell.1 4;simp only [List.getElem?_toArray,List.getElem?_cons_zero,List.getElem?_cons_succ] at xx;have HS8:=Lib.hid hst8;clear hst8 kx8)
  go_roundw
  case rel=>exact ⟨k2+1,by omega,by go_num,_,by rw [HSC.out,← List.append_assoc,hPP];exact HS8.out⟩
  case measure=>simp [intOf];omega
 obtain rfl:k2=os.length:=by omega
 obtain ⟨p0,pf,pz⟩:=hst.kx.cell
 have p1:=p0 1
 have p2:=p0 2
 have p3:=p0 3
 have p4:=p0 4
 have p0:=p0 0
 have kZ9:=kZ.keep hst.bel
 obtain ⟨z0,zf,zz⟩:=kZ9.cell
 have z1:=z0 1
 have z2:=z0 2
 have z3:=z0 3
 have z4:=z0 4
 have z0:=z0 0
 simp only [List.getElem?_toArray,List.getElem?_cons_zero,List.getElem?_cons_succ] at p0 p1 p2 p3 p4 z0 z1 z2 z3 z4
 have hcode:(progL inp gs os).code=(P ++ stoL gs (dlyL gs) R (dlyL gs).length) ++ outL os R os.length:=by
  unfold progL
  simp only
  rw [HS.out,List.append_assoc]
 rw [← hcode] at hst
 obtain ⟨pa,pc,hvp⟩:=hst.rp.slice
 subst hvp
 have hB9:=hB.trans (hst.bel.mono hB.size)
 have hb5:=fun u0 u1 u2 u3 u4=>(((((hB9.setCell (p:=⟨w.heap.size+1,0,none⟩) (by simp) u0).setCell (p:=⟨w.heap.size+1,1,none⟩) (by simp) u1).setCell (p:=⟨w.heap.size+1,2,none⟩) (by simp) u2).setCell (p:=⟨w.heap.size+1,3,none⟩) (by simp) u3).setCell (p:=⟨w.heap.size+1,4,none⟩) (by simp) u4)
 have hr5:=fun u0 u1 u2 u3 u4=>owns_set5 (IRw.mono hst.rp hB.size) kZ9 (by decide) u0 u1 u2 u3 u4
 have HF:=Lib.hid (And.intro hb5 hr5)
 have HD:=Lib.hid (show decide ((cmEnd gs os).holds.length≤16)=true by rw [HS.out];exact decide_eq_true h16)
 have HHL:=Lib.hid (show (cmEnd gs os).holds.length=H.length by rw [HS.out])
 clear hst kZ9 hb5 hr5 hB9 hcode
 go_wp2
 refine bodyPost_ret (v:=.tuple #[.agg #[.int .i64 inp,.int .i64 os.length,.int .i64 (dlyL gs).length,.int .i64 H.length,.slice pa (progL inp gs os).code.length pc],.bool true]) (by simp [results,Tryz.results71,go_sem,z0,z1,z2,z3,z4,zf,zz]) rfl ?_
 exact ⟨_,by rw [HD.out],HF.out.1 _ _ _ _ _,fun h=>(by rw [HD.out] at h;cases h),fun _=>⟨pa,pc,by rw [HHL.out],HF.out.2 _ _ _ _ _⟩⟩
end Go.Proofs.YtbljmfcifljkaaaGreatDoor
