/-
  The circuit of a graph, by the reference. Own work.
-/
import Derived.Test.YtbljmfcifljkaaaGreatDoorXBG
import Derived.Test.YtbljmfcifljkaaaGreatDoorXAG
set_option linter.all false
set_option maxRecDepth 100000
set_option maxHeartbeats 8000000
namespace Go.Proofs.YtbljmfcifljkaaaGreatDoor
open Go.RowKit
set_option maxRecDepth 100000
set_option maxHeartbeats 2000000
theorem ed_len2s {e:EdI} (h:edB e=true):e.ins.length≤2∧e.outs.length≤2:=by
 unfold edB at h
 simp only [Bool.and_eq_true,decide_eq_true_eq] at h
 have h4:=h.2.2
 unfold kindW at h4
 repeat' split at h4
 all_goals
  simp only [Prod.mk.injEq] at h4
  omega
def bNat:Value → Nat
 | .bool true=>1
 | _=>0
def gkOf (k:Int):Int:=if k=5 then 3 else if k=6 then 2 else if k=7 then 4 else 5
theorem bare_eq {e:EdI} (h:edB e=true) (hg:isGt e=true):bareG e=⟨gkOf e.kind,0,0,e.value⟩:=by
 have hk:=ed_gt.1 hg
 unfold edB at h
 simp only [Bool.and_eq_true,decide_eq_true_eq] at h
 have hv:=h.2.1
 have h4:e.kind=5∨e.kind=6∨e.kind=7∨e.kind=8:=by omega
 unfold bareG gtOf gkOf
 rcases h4 with h4|h4|h4|h4
 all_goals
  rw [h4] at hv ⊢
  simp [genValB,valB] at hv
  simp
  try exact hv.symm
theorem crOf_any (g:GrI) (h:CgOk g) (ve vi vo:Value) (w:World) (hE:EdsAt w ve g.edges) (hI:IntsAt w vi g.ins) (hO:IntsAt w vo g.outs) (hlE:g.edges.length≤60) (hlW:0≤g.wires∧g.wires≤100) (hlI:g.ins.length≤12) (hlO:g.outs.length≤12) :
  Calls Tryz.prog 137 #[.agg #[.int .i64 g.wires,ve,vi,vo]] w (CirP g.ins.length (crGs g) (crOs g) w):=by
 obtain ⟨a,cap,rfl,hc,hat⟩:=hE
 obtain ⟨pa,pc,rfl⟩:=hI.slice
 obtain ⟨qa,qc,rfl⟩:=hO.slice
 have hok2:∀ e ∈ g.edges,e.ins.length≤2∧e.outs.length≤2:=fun e he=>ed_len2s (cg_edB h.good e he)
 obtain ⟨n,hn⟩:∃ n:Nat,g.wires.toNat=n:=⟨_,rfl⟩
 have hgw:g.wires=(n:Int):=by omega
 have HN:=Lib.hid (And.intro hn hgw)
 have hnn:n≤100:=by omega
 rw [hgw]
 have hins:∀ k,∀ hk:k<g.ins.length,0≤g.ins[k]∧(g.ins[k]).toNat<n:=fun k hk=>by
  have:=cg_in h.good _ (List.mem_append_left _ (List.getElem_mem hk))
  omega
 have houts:∀ k,∀ hk:k<g.outs.length,0≤g.outs[k]∧(g.outs[k]).toNat<n:=fun k hk=>by
  have:=cg_in h.good _ (List.mem_append_right _ (List.mem_append_left _ (List.getElem_mem hk)))
  omega
 have hA1:=alloc_below w (.cells #[.int .i64 n,.slice a g.edges.length cap,.slice pa g.ins.length pc,.slice qa g.outs.length qc] 53)
 have hA2:=alloc_below (w.alloc (.cells #[.int .i64 n,.slice a g.edges.length cap,.slice pa g.ins.length pc,.slice qa g.outs.length qc] 53)) (.cells #[.int .i64 0,.slice none 0 0,.slice none 0 0] 112)
 have hA3:=alloc_below ((w.alloc (.cells #[.int .i64 n,.slice a g.edges.length cap,.slice pa g.ins.length pc,.slice qa g.outs.length qc] 53)).alloc (.cells #[.int .i64 0,.slice none 0 0,.slice none 0 0] 112)) (.cells #[.int .i64 g.ins.length,.slice none 0 0,.slice none 0 0] 112)
 have kG:=((Bk.new w 53 #[.int .i64 n,.slice a g.edges.length cap,.slice pa g.ins.length pc,.slice qa g.outs.length qc]).keep hA2).keep hA3
 have kZ:=(Bk.new (w.alloc (.cells #[.int .i64 n,.slice a g.edges.length cap,.slice pa g.ins.length pc,.slice qa g.outs.length qc] 53)) 112 #[.int .i64 0,.slice none 0 0,.slice none 0 0]).keep hA3
 have kK:=Bk.new ((w.alloc (.cells #[.int .i64 n,.slice a g.edges.length cap,.slice pa g.ins.length pc,.slice qa g.outs.length qc] 53)).alloc (.cells #[.int .i64 0,.slice none 0 0,.slice none 0 0] 112)) 112 #[.int .i64 g.ins.length,.slice none 0 0,.slice none 0 0]
 simp only [World.size_alloc] at kZ kK
 have hB:=(hA1.trans (hA2.mono hA1.size)).trans (hA3.mono (by simp;omega))
 have HAT:=Lib.hid hat
 have HI:=Lib.hid hI
 have HO:=Lib.hid hO
 have HINS:=Lib.hid hins
 have HOUTS:=Lib.hid houts
 have HOK:=Lib.hid hok2
 clear hat hI hO hins houts hok2 hn hgw hA1 hA2 hA3
 go_enter Tryz.func137,Tryz.ntmps137
 go_wp2_with fail
 generalize (((w.alloc (.cells #[.int .i64 n,.slice a g.edges.length cap,.slice pa g.ins.length pc,.slice qa g.outs.length qc] 53)).alloc (.cells #[.int .i64 0,.slice none 0 0,.slice none 0 0] 112)).alloc (.cells #[.int .i64 g.ins.length,.slice none 0 0,.slice none 0 0] 112))=u0 at *
 refine (cnNone_any n u0 (by omega)).mono ?_
 rintro e w1 ⟨v,rfl,hv,hb1⟩
 obtain ⟨sa,sc,rfl⟩:=hv.slice
 rw [List.length_replicate] at *
 have hst:CoS w #[.int .i64 n,.slice a g.edges.length cap,.slice pa g.ins.length pc,.slice qa g.outs.length qc] g.ins.length sa sc n w1 (.slice none 0 0) (.slice none 0 0) (srcI g 0).2 (srcI g 0).1 :=
  ⟨kG.keep hb1,kZ.keep hb1,kK.keep hb1,World.ownsRow_nil _ _ _ _,by
   have hz:(srcI g 0).1=List.replicate n (-1):=by unfold srcI;rw [HN.out.1];rfl
   rw [hz]
   exact hv.mono (by have:=hB.size;omega),by simp [srcI,HN.out.1],hB.trans (hb1.mono hB.size)⟩
 have x0:=hst.kg.cell.1 2
 have xz:=hst.kg.lt
 simp only [List.getElem?_toArray,List.getElem?_cons_zero,List.getElem?_cons_succ] at x0
 clear hb1 kG kZ kK hv hB
 go_wp2_with fail
 clear x0 xz
 go_loopw [26] (fun i wr=>∃ k:Nat,k≤g.ins.length∧i=.int .i64 k∧∃ vg,CoS w #[.int .i64 n,.slice a g.edges.length cap,.slice pa g.ins.length pc,.slice qa g.outs.length qc] g.ins.length sa sc n wr vg (.slice none 0 0) (srcI g k).2 (srcI g k).1) (fun i _=>g.ins.length - (intOf i).toNat)
 case atStart=>exact ⟨0,Nat.zero_le _,rfl,_,hst⟩
 case round =>
  clear hst
  obtain ⟨k,hk,rfl,vg,hst⟩:=hrel
  by_cases hlk:k<g.ins.length
  ·obtain ⟨pb,po,rfl,d0⟩:=ints_cell (HI.out.keep hst.bel) hlk
   have hir:=HINS.out k hlk
   have hsu:=srcI_succ g hlk
   have hgl:(srcI g k).2=inGs k:=srcI_gs g k hk
   obtain ⟨m,hm⟩:∃ m:Nat,g.ins[k]=m:=⟨(g.ins[k]).toNat,by omega⟩
   rw [hm] at d0 hir hsu
   rw [Int.toNat_natCast] at hir
   unfold stI at hsu
   rw [Int.toNat_natCast,hgl,inGs_len] at hsu
   rw [hgl] at hst
   obtain ⟨ga,gc,hvo⟩:=hst.rg.slice
   rw [inGs_len] at hvo
   subst hvo
   obtain ⟨q,rfl,hq1,hq4⟩:=hst.src (by omega)
   obtain ⟨q',old,e',-,g0,gf,-,hst1⟩:=hst.putS hir.2 (k:Int)
   simp only [Option.some.injEq,Addr.mk.injEq,and_true] at e'
   subst e'
   have dz:=cell_lt d0
   have gz:=cell_lt g0
   have x1:=hst.kc.cell.1 1
   have xz:=hst.kc.lt
   simp only [List.getElem?_toArray,List.getElem?_cons_zero,List.getElem?_cons_succ] at x1
   have hA2:=alloc_below (wr.setCell ⟨q,m,none⟩ (.int .i64 k)) (.cells #[.int .i64 1,.int .i64 0,.int .i64 0,.int .i64 k] 203)
   have hst2:=hst1.keep hA2
   have h1:=gat_one (wr.setCell ⟨q,m,none⟩ (.int .i64 k)) ⟨1,0,0,k⟩
   rw [setCell_size] at h1
   have hrow2:=hst2.rg
   have hble:=hst2.bel.size
   have HS2:=Lib.hid hst2
   have HSU:=Lib.hid hsu
   have HGL:=Lib.hid (inGs_len k)
   have HQ:=Lib.hid hq4
   clear hst hst1 hst2 hA2 hm hsu hgl hq4
   go_wp2_with (at_builtin;go_must (refine gts_append h1 rfl (.tmp 36) (.tmp 39) rfl w.heap.size _ (inGs k) rfl rfl hrow2 hble (by rw [HGL.out];simp only [List.length_singleton];omega) ?_);intro v5 w5 q1 q2 q3;obtain ⟨va,vc,rfl⟩:=q1.slice;rw [show (inGs k ++ [(⟨1,0,0,(k:Int)⟩:GtI)]).length=(inGs k).length+1 by simp] at q1;obtain ⟨kc5,rs5,hst5⟩:=HS2.out.app q2 q1;have f5:=kc5.cell.2.1 1;have y5:=kc5.cell.1 1;simp only [List.getElem?_toArray,List.getElem?_cons_zero,List.getElem?_cons_succ] at y5;have z5:=kc5.lt)
   go_roundw
   case rel=>exact ⟨k+1,by omega,by go_num,_,by rw [HSU.out];exact hst5⟩
   case measure=>simp [intOf];omega
  ·obtain rfl:k=g.ins.length:=by omega
   rw [← srcE_zero] at hst
   have x1:=hst.kg.cell.1 1
   have xz:=hst.kg.lt
   simp only [List.getElem?_toArray,List.getElem?_cons_zero,List.getElem?_cons_succ] at x1
   generalize hww:wr=wo at *
   clear hww
   go_wp2_with fail
   clear x1 xz
   go_loopw [46] (fun i wr=>∃ k:Nat,k≤g.edges.length∧i=.int .i64 k∧∃ vg,CoS w #[.int .i64 n,.slice a g.edges.length cap,.slice pa g.ins.length pc,.slice qa g.outs.length qc] g.ins.length sa sc n wr vg (.slice none 0 0) (srcE g k).2 (srcE g k).1) (fun i _=>g.edges.length - (intOf i).toNat)
   case atStart=>exact ⟨0,Nat.zero_le _,rfl,_,hst⟩
   case round =>
    clear hst
    obtain ⟨k,hk,rfl,vg,hst⟩:=hrel
    by_cases hlk:k<g.edges.length
    ·obtain ⟨b,o,rfl,_,hed⟩:=HAT.out k hlk
     have hse:=srcE_succ g hlk
     have hek:=HOK.out _ (List.getElem_mem hlk)
     have hro:=fun u (hu:u ∈ g.edges[k].outs)=>cg_eout h.good (List.getElem_mem hlk) hu
     have hedb:=cg_edB h.good _ (List.getElem_mem hlk)
     have hsm:=h.small _ (List.getElem_mem hlk)
     have hcase:=ed_cases hedb hsm
     have hgl:(srcE g k).2.length≤80:=by
      rw [srcE_gs g k hk,List.length_append,inGs_len,List.length_map]
      have h2:=List.length_filter_le isGt (g.edges.take k)
      rw [List.length_take] at h2
      unfold gtE
      omega
     obtain ⟨e,hee⟩:∃ e,g.edges[k]=e:=⟨_,rfl⟩
     rw [hee] at hed hek hse hro hcase hedb hsm
     obtain ⟨c0,c1,wi,wo,c2,c3,hei,heo⟩:=hed
     obtain ⟨ia,ic,rfl⟩:=hei.slice
     obtain ⟨oa,oc,rfl⟩:=heo.slice
     replace c0:=cell_keep hst.bel c0
     replace c1:=cell_keep hst.bel c1
     replace c2:=cell_keep hst.bel c2
     replace c3:=cell_keep hst.bel c3
     have bz:=cell_lt c0
     have hA2:=alloc_below wr (.cells #[.int .i64 e.kind,.int .i64 e.value,.slice ia e.ins.length ic,.slice oa e.outs.length oc] 189)
     have kE:=Bk.new wr 189 #[.int .i64 e.kind,.int .i64 e.value,.slice ia e.ins.length ic,.slice oa e.outs.length oc]
     have hst2:=hst.keep hA2
     clear hst hA2 hee hei
     cases hgt:isGt e with
     | false =>
      rw [stE_no hgt] at hse
      have hk5:¬ (5:Int)≤e.kind:=fun hc=>by
       have:=ed_gt.2 ⟨hc,hsm⟩
       rw [hgt] at this;cases this
      have HSE:=Lib.hid hse
      have HS:=Lib.hid hst2
      clear hse hcase hro kE hst2 hedb heo
      go_wp2
      go_roundw
      case rel=>exact ⟨k+1,by omega,by go_num,_,by rw [HSE.out];exact HS.out⟩
      case measure=>simp [intOf];omega
     | true =>
      have hbq:=bare_eq hedb hgt
      have hk5:=(ed_gt.1 hgt).1
      rw [stE_yes hgt,hbq] at hse
      have hshape:e.outs.length=1:=by
       rcases hcase with h2|h2|h2
       ·rw [h2.2.2.2] at hgt;cases hgt
       ·rw [h2.2.2] at hgt;cases hgt
       ·exact h2.2.1
      obtain ⟨ob,oo,rfl,f0⟩:=ints_cell heo (i:=0) (by omega)
      have hm0:=hro _ (List.getElem_mem (show 0<e.outs.length by omega))
      rw [← getD0 (show 0<e.outs.length by omega)] at hm0
      have hfz:e.outs[0]'(by omega)=e.outs.getD 0 0:=(getD0 (by omega)).symm
      rw [hfz] at f0
      obtain ⟨m,hm⟩:∃ m:Nat,e.outs.getD 0 0=m:=⟨(e.outs.getD 0 0).toNat,by omega⟩
      rw [hm] at f0 hm0 hse
      rw [Int.toNat_natCast] at hse
      have hmn:m<n:=by have:=HN.out.1;omega
      have f0w:=cell_lt f0
      obtain ⟨q,rfl,hq1,hq4⟩:=hst2.src (by omega)
      have HSE:=Lib.hid hse
      have hpos:(0:Int)<(e.outs.length:Int):=by omega
      have hpos2:0<e.outs.length:=by omega
      simp only [Nat.add_zero] at f0
      have F0:=Lib.hid f0
      clear hse hcase hro hshape hm hm0 hfz heo f0 hbq hedb
      go_wp2_with fail
      generalize (wr.alloc (.cells #[.int .i64 e.kind,.int .i64 e.value,.slice ia e.ins.length ic,.slice (some ⟨ob,oo,none⟩) e.outs.length oc] 189))=WW at *
      generalize wr.heap.size=eb at *
      obtain ⟨ga,gc,rfl⟩:=hst2.rg.slice
      have e3:=kE.cell.1 3
      have x1:=hst2.kc.cell.1 1
      simp only [List.getElem?_toArray,List.getElem?_cons_zero,List.getElem?_cons_succ] at e3 x1
      have f0:=cell_keep hst2.bel F0.out
      obtain ⟨q',old,e8,-,g0,gf,-,-⟩:=hst2.putS hmn ((srcE g k).2.length:Int)
      simp only [Option.some.injEq,Addr.mk.injEq,and_true] at e8
      subst e8
      have ez:=kE.lt
      have xz:=hst2.kc.lt
      have fz:=cell_lt f0
      have gz:=cell_lt g0
      have heq':eb ≠ q:=fun e=>row_blk_ne hst2.rs kE (by decide) (by simp [Value.ownBlock,e])
      have hoq:ob ≠ q:=by omega
      have hcq:¬ w.heap.size+2=q:=hq1
      have heq2:¬ eb=q:=heq'
      have hoq2:¬ ob=q:=hoq
      clear c0 c1 c2 c3 bz
      refine region_acts (C:=Exc ((fun j=>j=q)) _) 6 [0,1,2,3,4,5,6,7,8,9] (by kernel_rfl) (by kernel_rfl) (Exc.grows _ _) (Exc.refl _ _) ?_
      iterate 9 (apply x_sT rfl rfl rfl;(focus intro u hc' hf';(try simp only [World.size_drew] at hc' hf');go_simp <;> rfl);intro K hK;go_simp;apply hK;clear hK K)
      refine x_do rfl rfl rfl (Exc.grows _ _) (Exc.refl _ _) (fun K hK=>?_)
      intro w8 hw8 hb8
      have hBW:Below WW.heap.size WW w8:=(Below.refl WW.heap.size WW).drew.trans (hb8.mono (by simp))
      have hst8:=hst2.keep hBW
      have kE8:=kE.keep hBW
      clear e3 x1 f0 g0 gf
      obtain ⟨q',old8,e8,-,g8,gf8,-,hst9⟩:=hst8.putS hmn ((srcE g k).2.length:Int)
      simp only [Option.some.injEq,Addr.mk.injEq,and_true] at e8
      subst e8
      refine ⟨w8.setCell ⟨q,m,none⟩ (.int .i64 ((srcE g k).2.length:Int)),?_,⟨exc_set hw8 (.inr rfl) _,by simp,fun j hj _ _=>by
       have hj2:¬ (j=q):=by intro hh;simp only [World.size_drew] at hj;omega
       rw [Below.heap_setCell _ _ _ _ (fun h=>hj2 (by simpa using h))]⟩,?_⟩
      ·go_simp
      go_simp
      refine hK _ _ _ ?_
      clear hK K
      refine x_nil ?_
      have kE9:=kE8.other ⟨q,m,none⟩ (.int .i64 ((srcE g k).2.length:Int)) heq'
      generalize (w8.setCell ⟨q,m,none⟩ (.int .i64 ((srcE g k).2.length:Int)))=W9 at *
      have x1:=hst9.kc.cell.1 1
      have xz:=hst9.kc.lt
      obtain ⟨e0,-,ez⟩:=kE9.cell
      have e1:=e0 1
      have e0:=e0 0
      simp only [List.getElem?_toArray,List.getElem?_cons_zero,List.getElem?_cons_succ] at x1 e0 e1
      have hA4:=alloc_below W9 (.cells #[.int .i64 3,.int .i64 2,.int .i64 4,.int .i64 5] 3)
      have hA5:=alloc_below (W9.alloc (.cells #[.int .i64 3,.int .i64 2,.int .i64 4,.int .i64 5] 3)) (.cells #[.int .i64 (gkOf e.kind),.int .i64 0,.int .i64 0,.int .i64 e.value] 203)
      have h1:=gat_one (W9.alloc (.cells #[.int .i64 3,.int .i64 2,.int .i64 4,.int .i64 5] 3)) ⟨gkOf e.kind,0,0,e.value⟩
      rw [World.size_alloc] at h1
      have hst10:=(hst9.keep hA4).keep hA5
      have hrow10:=hst10.rg
      have hble:=hst10.bel.size
      have HS10:=Lib.hid hst10
      have HLN:=Lib.hid (show ((srcE g k).2 ++ [(⟨gkOf e.kind,0,0,e.value⟩:GtI)]).length=(srcE g k).2.length+1 by simp)
      have hk8:e.kind=5∨e.kind=6∨e.kind=7∨e.kind=8:=by omega
      clear hst10 hst9 kE9 hst8 kE8 hst2 kE hBW hb8 hw8 g8 gf8 hA4 hA5 fz gz hq4 hsm hk5
      rcases hk8 with hk8|hk8|hk8|hk8
      all_goals
       rw [hk8] at h1 hrow10 hble HS10 HLN HSE
       simp only [show gkOf 5=3 from rfl,show gkOf 6=2 from rfl,show gkOf 7=4 from rfl,show gkOf 8=5 from rfl] at h1 hrow10 hble HS10 HLN HSE
       go_wp2_with (at_builtin;refine gts_append h1 rfl (.tmp 74) (.tmp 79) rfl w.heap.size _ (srcE g k).2 rfl rfl hrow10 hble (by simp only [List.length_singleton];omega) ?_;intro v5 w5 q1 q2 q3;obtain ⟨va,vc,rfl⟩:=q1.slice;rw [HLN.out] at q1;obtain ⟨kc5,rs5,hst5⟩:=HS10.out.app q2 q1;have f5:=kc5.cell.2.1 1;have y5:=kc5.cell.1 1;have z5:=kc5.lt;simp only [List.getElem?_toArray,List.getElem?_cons_zero,List.getElem?_cons_succ] at y5)
       go_roundw
       case rel=>exact ⟨k+1,by omega,by go_num,_,by rw [HSE.out];exact hst5⟩
       case measure=>simp [intOf];omega
    ·obtain rfl:k=g.edges.length:=by omega
     have hsl:(srcE g g.edges.length).1=srcL g:=rfl
     rw [← gsK_zero g,hsl] at hst
     have hfw:=fw_start h
     clear hsl
     generalize hww:wr=wo at *
     clear hww
     go_wp2_with fail
     go_loopw [10] (fun v wr=>∃ l b,v=.bool b∧CoS w #[.int .i64 n,.slice a g.edges.length cap,.slice pa g.ins.length pc,.slice qa g.outs.length qc] g.ins.length sa sc n wr vg (.slice none 0 0) (gsK g 0) l∧FwI g l∧(b=false → ∀ i,∀ hi:i<g.edges.length,fireB l g.edges[i]=false)) (fun v wr=>2 * negW wr sa n+bNat v)
     case atStart=>exact ⟨_,true,rfl,hst,hfw,fun hb=>by cases hb⟩
     case round =>
      clear hst hfw
      obtain ⟨l,b,rfl,hst,hfw,hclo⟩:=hrel
      cases b with
      | true =>
       have x1:=hst.kg.cell.1 1
       have xz:=hst.kg.lt
       simp only [List.getElem?_toArray,List.getElem?_cons_zero,List.getElem?_cons_succ] at x1
       have HNW:=Lib.hid (negW_eq hst.rs hst.ls)
       clear hclo
       go_wp2_with fail
       clear x1 xz
       go_loopw [10,87] (fun v i wr=>∃ k:Nat,k≤g.edges.length∧i=.int .i64 k∧∃ l2 b,v=.bool b∧CoS w #[.int .i64 n,.slice a g.edges.length cap,.slice pa g.ins.length pc,.slice qa g.outs.length qc] g.ins.length sa sc n wr vg (.slice none 0 0) (gsK g 0) l2∧FwI g l2∧(b=false → l2=l∧∀ j,∀ hj:j<g.edges.length,j<k → fireB l g.edges[j]=false)∧(b=true → negN l2<negN l)) (fun _ i _=>g.edges.length - (intOf i).toNat)
       case atStart=>exact ⟨0,Nat.zero_le _,rfl,_,false,rfl,hst,hfw,fun _=>⟨rfl,fun j _ hj=>by omega⟩,fun hb=>by cases hb⟩
       case round =>
        clear hst hfw
        obtain ⟨k,hk,rfl,l2,b,rfl,hst,hfw,hb0,hb1⟩:=hrel
        by_cases hlk:k<g.edges.length
        ·obtain ⟨b',o,rfl,_,hed⟩:=HAT.out k hlk
         have hek:=HOK.out _ (List.getElem_mem hlk)
         have hro:=fun u (hu:u ∈ g.edges[k].outs)=>cg_eout h.good (List.getElem_mem hlk) hu
         have hri:=fun u (hu:u ∈ g.edges[k].ins)=>cg_ein h.good (List.getElem_mem hlk) hu
         have hedb:=cg_edB h.good _ (List.getElem_mem hlk)
         have hsm:=h.small _ (List.getElem_mem hlk)
         have hcase:=ed_cases hedb hsm
         have hfire:=fun hb=>fw_fire h hfw hlk hb
         have hskip:fireB l2 g.edges[k]=false → (b=false → l2=l∧∀ j,∀ hj:j<g.edges.length,j<k+1 → fireB l g.edges[j]=false):=fun hf hb=>by
          obtain ⟨e1,e2⟩:=hb0 hb
          refine ⟨e1,fun j hj hjk=>?_⟩
          by_cases e3:j=k
          ·subst e3;rw [← e1];exact hf
          ·exact e2 j hj (by omega)
         obtain ⟨e,hee⟩:∃ e,g.edges[k]=e:=⟨_,rfl⟩
         rw [hee] at hed hek hro hri hcase hfire hskip
         obtain ⟨c0,c1,wi,wo',c2,c3,hei,heo⟩:=hed
         obtain ⟨ia,ic,rfl⟩:=hei.slice
         obtain ⟨oa,oc,rfl⟩:=heo.slice
         replace c0:=cell_keep hst.bel c0
         replace c1:=cell_keep hst.bel c1
         replace c2:=cell_keep hst.bel c2
         replace c3:=cell_keep hst.bel c3
         have bz:=cell_lt c0
         have hA2:=alloc_below wr (.cells #[.int .i64 e.kind,.int .i64 e.value,.slice ia e.ins.length ic,.slice oa e.outs.length oc] 189)
         have kE:=Bk.new wr 189 #[.int .i64 e.kind,.int .i64 e.value,.slice ia e.ins.length ic,.slice oa e.outs.length oc]
         have hst2:=hst.keep hA2
         clear hst hA2 hee hedb hsm
         by_cases hk3:e.kind=3
         ·have hsh:e.ins.length=1∧e.outs.length=2:=by
           rcases hcase with h2|h2|h2
           ·exact ⟨h2.2.1,h2.2.2.1⟩
           ·omega
           ·omega
          have r0:=hri _ (in0_mem (e:=e) (by omega))
          obtain ⟨ro0,ro1⟩:=out_mem hsh.2
          have r1:=hro _ ro0
          have r2:=hro _ ro1
          obtain ⟨ib,io,rfl,f0⟩:=ints_cell hei (i:=0) (by omega)
          obtain ⟨ob,oo,rfl,f1⟩:=ints_cell heo (i:=0) (by omega)
          obtain ⟨ob2,oo2,eob,f2⟩:=ints_cell heo (i:=1) (by omega)
          simp only [Option.some.injEq,Addr.mk.injEq,and_true] at eob
          obtain ⟨rfl,rfl⟩:=eob
          have hz0:e.ins[0]'(by omega)=in0 e:=(getD0 (by omega)).symm
          have hz1:e.outs[0]'(by omega)=out0 e:=(getD0 (by omega)).symm
          have hz2:e.outs[1]'(by omega)=out1 e:=(getD1 (by omega)).symm
          rw [hz0] at f0
          rw [hz1] at f1
          rw [hz2] at f2
          simp only [Nat.add_zero] at f0 f1
          have hn1:=HN.out.1
          obtain ⟨mi,hmi⟩:∃ m:Nat,in0 e=m:=⟨(in0 e).toNat,by omega⟩
          obtain ⟨m0,hm0⟩:∃ m:Nat,out0 e=m:=⟨(out0 e).toNat,by omega⟩
          obtain ⟨m1,hm1⟩:∃ m:Nat,out1 e=m:=⟨(out1 e).toNat,by omega⟩
          rw [hmi] at f0 r0
          rw [hm0] at f1 r1
          rw [hm1] at f2 r2
          have fi0:=cell_lt f0
          have fo0:=cell_lt f1
          have HF:=Lib.hid (And.intro f0 (And.intro f1 f2))
          replace f0:=cell_keep hst2.bel f0
          replace f1:=cell_keep hst2.bel f1
          replace f2:=cell_keep hst2.bel f2
          rw [Int.toNat_natCast] at r0 r1 r2
          obtain ⟨q,rfl,hq1,hq4⟩:=hst2.src (by omega)
          have hls:=hst2.ls
          have hfb:fireB l2 e=(decide (0≤l2.getD mi (-1)) && decide (l2.getD m0 (-1)<0)):=by
           unfold fireB
           rw [decide_eq_true hk3,hmi,hm0,Int.toNat_natCast,Int.toNat_natCast,Bool.true_and]
          have hfv:fire l2 e=(l2.set m0 (l2.getD mi (-1))).set m1 (l2.getD mi (-1)):=by
           unfold fire
           rw [hmi,hm0,hm1,Int.toNat_natCast,Int.toNat_natCast,Int.toNat_natCast]
          have hneg:=fun hb=>neg_fire (l:=l2) (e:=e) hb (by rw [hm0,Int.toNat_natCast,hls];omega)
          have s0:=Rw.cell hst2.rs mi (by omega)
          have s1:=Rw.cell hst2.rs m0 (by omega)
          have hgi:l2.getD mi (-1)=l2[mi]'(by omega):=by rw [List.getD_eq_getElem?_getD,List.getElem?_eq_getElem (by omega)];rfl
          have hg0:l2.getD m0 (-1)=l2[m0]'(by omega):=by rw [List.getD_eq_getElem?_getD,List.getElem?_eq_getElem (by omega)];rfl
          rw [← hgi] at s0
          rw [← hg0] at s1
          generalize hx:l2.getD mi (-1)=x at *
          generalize hy:l2.getD m0 (-1)=y at *
          have ez:=kE.lt
          have sz:=cell_lt s0
          have fz0:=cell_lt f0
          have fz1:=cell_lt f1
          have hi0:0<e.ins.length:=by omega
          have ho0:0<e.outs.length:=by omega
          have ho1:1<e.outs.length:=by omega
          have hi0':(0:Int)<(e.ins.length:Int):=by omega
          have ho0':(0:Int)<(e.outs.length:Int):=by omega
          have ho1':(1:Int)<(e.outs.length:Int):=by omega
          have hkq:(e.kind == 3)=true:=by simp [hk3]
          have hm0n:m0<n:=by omega
          have hm1n:m1<n:=by omega
          have hmin:mi<n:=by omega
          clear hcase hro hri ro0 ro1 hz0 hz1 hz2 hgi hg0 hmi hm0 hm1 hei heo hsh hk3 r0 r1 r2 hn1
          by_cases hx0:0≤x
          ·by_cases hy0:y<0
           ·have hfb1:fireB l2 e=true:=by rw [hfb,decide_eq_true hx0,decide_eq_true hy0];rfl
            have hnew:=hfire hfb1
            have hneg1:=hneg hfb1
            rw [hfv] at hnew hneg1
            have hneg2:negN ((l2.set m0 x).set m1 x)<negN l:=by
             cases b with
             | true=>have:=hb1 rfl;omega
             | false=>rw [(hb0 rfl).1] at hneg1 ⊢;exact hneg1
            have HNEW:=Lib.hid (And.intro hnew hneg2)
            have HLS:=Lib.hid hls
            clear hfb hfb1 hfv hneg hneg1 hneg2 hnew hfire hskip hb0 hb1 hfw hls
            go_wp2_with fail
            generalize (wr.alloc (.cells #[.int .i64 e.kind,.int .i64 e.value,.slice (some ⟨ib,io,none⟩) e.ins.length ic,.slice (some ⟨ob,oo,none⟩) e.outs.length oc] 189))=WW at *
            generalize wr.heap.size=eb at *
            have e2:=kE.cell.1 2
            have e3:=kE.cell.1 3
            simp only [List.getElem?_toArray,List.getElem?_cons_zero,List.getElem?_cons_succ] at e2 e3
            have heq':eb ≠ q:=fun e=>row_blk_ne hst2.rs kE (by decide) (by simp [Value.ownBlock,e])
            obtain ⟨q',old0,e8,-,g0,gf,-,-⟩:=hst2.putS hm0n x
            simp only [Option.some.injEq,Addr.mk.injEq,and_true] at e8
            subst e8
            have gz:=cell_lt g0
            refine region_acts2 (C:=Exc (NoT) _) 9 [0,1,2,3,4,5,6,7,8,9,10,11,12] [13] (by kernel_rfl) (by kernel_rfl) (Exc.grows _ _) (Exc.refl _ _) ?_
            iterate 13 (apply x_st rfl rfl rfl;(focus intro u hc' hf';go_simp <;> rfl);intro K hK;go_simp;apply hK;clear hK K)
            refine x_nil ?_
            refine ⟨Exc (fun j=>j=q) WW.drew,WW.drew.heap.size,Exc.grows _ _,Exc.refl _ _,?_⟩
            refine x_do rfl rfl rfl (Exc.grows _ _) (Exc.refl _ _) (fun K hK=>?_)
            intro w8 hw8 hb8
            have hBW:Below WW.heap.size WW w8:=(Below.refl WW.heap.size WW).drew.trans (hb8.mono (by simp))
            have hst8:=hst2.keep hBW
            have kE8:=kE.keep hBW
            clear s0 s1 f0 f1 f2 e2 e3 g0 gf
            obtain ⟨q',old8,e8,-,g8,gf8,-,hst9⟩:=hst8.putS hm0n x
            simp only [Option.some.injEq,Addr.mk.injEq,and_true] at e8
            subst e8
            refine ⟨w8.setCell ⟨q,m0,none⟩ (.int .i64 x),?_,⟨exc_set hw8 (.inr rfl) _,by simp,fun j hj _ _=>by
             have hj2:¬ (j=q):=by intro hh;simp only [World.size_drew] at hj;omega
             rw [Below.heap_setCell _ _ _ _ (fun h=>hj2 (by simpa using h))]⟩,?_⟩
            ·go_simp
            go_simp
            refine hK _ _ _ ?_
            clear hK K
            refine x_nil ?_
            have kE9:=kE8.other ⟨q,m0,none⟩ (.int .i64 x) heq'
            generalize (w8.setCell ⟨q,m0,none⟩ (.int .i64 x))=W9 at *
            clear hst8 kE8 hw8 hb8 g8 gf8 hBW
            have hl9:(l2.set m0 x).length=n:=by rw [List.length_set];exact HLS.out
            have hgi9:(l2.set m0 x)[mi]'(by omega)=x:=by
             rw [List.getElem_set]
             split
             ·rfl
             ·have hx2:=hx
              rw [List.getD_eq_getElem?_getD,List.getElem?_eq_getElem (by rw [HLS.out];omega)] at hx2
              exact hx2
            have s0:=Rw.cell hst9.rs mi (by omega)
            rw [hgi9] at s0
            have f0:=cell_keep hst9.bel HF.out.1
            have f1:=cell_keep hst9.bel HF.out.2.1
            have f2:=cell_keep hst9.bel HF.out.2.2
            have e2:=kE9.cell.1 2
            have e3:=kE9.cell.1 3
            simp only [List.getElem?_toArray,List.getElem?_cons_zero,List.getElem?_cons_succ] at e2 e3
            obtain ⟨q',old0,e8,-,g0,gf,-,-⟩:=hst9.putS hm1n x
            simp only [Option.some.injEq,Addr.mk.injEq,and_true] at e8
            subst e8
            have gz:=cell_lt g0
            have ez:=kE9.lt
            have fz0:=cell_lt f0
            have fz1:=cell_lt f1
            clear hx hy hl9 hgi9
            go_wp2_with fail
            refine region_acts2 (C:=Exc (NoT) _) 9 [0,1,2,3,4,5,6,7,8,9,10,11,12] [13] (by kernel_rfl) (by kernel_rfl) (Exc.grows _ _) (Exc.refl _ _) ?_
            iterate 13 (apply x_st rfl rfl rfl;(focus intro u hc' hf';go_simp <;> rfl);intro K hK;go_simp;apply hK;clear hK K)
            refine x_nil ?_
            refine ⟨Exc (fun j=>j=q) W9.drew,W9.drew.heap.size,Exc.grows _ _,Exc.refl _ _,?_⟩
            refine x_do rfl rfl rfl (Exc.grows _ _) (Exc.refl _ _) (fun K hK=>?_)
            intro w8 hw8 hb8
            have hBW:Below W9.heap.size W9 w8:=(Below.refl W9.heap.size W9).drew.trans (hb8.mono (by simp))
            have hst8:=hst9.keep hBW
            clear s0 f0 f1 f2 e2 e3 g0 gf
            obtain ⟨q',old8,e8,-,g8,gf8,-,hst10⟩:=hst8.putS hm1n x
            simp only [Option.some.injEq,Addr.mk.injEq,and_true] at e8
            subst e8
            refine ⟨w8.setCell ⟨q,m1,none⟩ (.int .i64 x),?_,⟨exc_set hw8 (.inr rfl) _,by simp,fun j hj _ _=>by
             have hj2:¬ (j=q):=by intro hh;simp only [World.size_drew] at hj;omega
             rw [Below.heap_setCell _ _ _ _ (fun h=>hj2 (by simpa using h))]⟩,?_⟩
            ·go_simp
            go_simp
            refine hK _ _ _ ?_
            clear hK K
            refine x_nil ?_
            have HS:=Lib.hid hst10
            generalize (w8.setCell ⟨q,m1,none⟩ (.int .i64 x))=W10 at *
            clear hst8 hst9 hst10 hst2 hw8 hb8 g8 gf8 hBW kE kE9
            go_wp2
            go_roundw
            case rel=>exact ⟨k+1,by omega,by go_num,_,true,rfl,HS.out,HNEW.out.1,(fun hb=>by cases hb),(fun _=>HNEW.out.2)⟩
            case measure=>simp [intOf];omega
           ·have hf:fireB l2 e=false:=by rw [hfb,decide_eq_false hy0];simp
            have HS:=Lib.hid (And.intro hst2 (And.intro hfw (And.intro (hskip hf) hb1)))
            clear hst2 hfw hskip hb0 hb1 hfire kE hf hfb hfv hneg hls hx hy
            go_wp2
            go_roundw
            case rel=>exact ⟨k+1,by omega,by go_num,l2,b,rfl,HS.out.1,HS.out.2.1,HS.out.2.2.1,HS.out.2.2.2⟩
            case measure=>simp [intOf];omega
          ·have hf:fireB l2 e=false:=by rw [hfb,decide_eq_false hx0];rfl
           have HS:=Lib.hid (And.intro hst2 (And.intro hfw (And.intro (hskip hf) hb1)))
           clear hst2 hfw hskip hb0 hb1 hfire kE hf hfb hfv hneg hls hx hy
           go_wp2
           go_roundw
           case rel=>exact ⟨k+1,by omega,by go_num,l2,b,rfl,HS.out.1,HS.out.2.1,HS.out.2.2.1,HS.out.2.2.2⟩
           case measure=>simp [intOf];omega
         ·have hf:fireB l2 e=false:=by unfold fireB;rw [decide_eq_false hk3];rfl
          have hkq:(e.kind == 3)=false:=by simp [hk3]
          have HS:=Lib.hid (And.intro hst2 (And.intro hfw (And.intro (hskip hf) hb1)))
          clear hst2 hfw hskip hb0 hb1 hfire hcase hro hri kE hf hk3 hei heo
          go_wp2
          go_roundw
          case rel=>exact ⟨k+1,by omega,by go_num,l2,b,rfl,HS.out.1,HS.out.2.1,HS.out.2.2.1,HS.out.2.2.2⟩
          case measure=>simp [intOf];omega
        ·obtain rfl:k=g.edges.length:=by omega
         have HS:=Lib.hid (And.intro hst (And.intro hfw (And.intro hb0 hb1)))
         have HNW2:=Lib.hid (negW_eq hst.rs hst.ls)
         clear hst hfw hb0 hb1
         go_wp2
         go_roundw
         case rel=>exact ⟨l2,b,rfl,HS.out.1,HS.out.2.1,fun hb i hi=>by rw [(HS.out.2.2.1 hb).1];exact (HS.out.2.2.1 hb).2 i hi hi⟩
         case measure =>
          have h1:=HS.out.2.2.1
          have h2:=HS.out.2.2.2
          rw [HNW2.out,HNW.out]
          cases b with
          | true=>have:=h2 rfl;simp only [bNat];omega
          | false=>rw [(h1 rfl).1];simp only [bNat];omega
      | false =>
       have hend:=fun {z:Int} (h0:0≤z) (hz:z<g.wires)=>fw_end h hfw (hclo rfl) h0 hz
       have hml2:(gtE g.edges).length≤60:=Nat.le_trans (List.length_filter_le _ _) hlE
       obtain ⟨x0,xf,xz⟩:=hst.kg.cell
       have x1:=x0 1
       have x2:=x0 2
       simp only [List.getElem?_toArray,List.getElem?_cons_zero,List.getElem?_cons_succ] at x1 x2
       have hcond:(false=true)=False:=by simp
       obtain ⟨ga,gc,rfl⟩:=hst.rg.slice
       rw [gsK_len g (Nat.zero_le _)] at hst
       have HEND:=Lib.hid (fun (z:Int) (h0:0≤z) (hz:z<g.wires)=>hend h0 hz)
       clear hfw hclo hend hcond x0
       go_wp2_with fail
       clear x1 x2 xf xz
       go_loopw [13,147] (fun av i wr=>∃ k:Nat,k≤g.edges.length∧i=.int .i64 k∧av=.int .i64 ((g.ins.length+(gtE (g.edges.take k)).length:Nat):Int)∧CoS w #[.int .i64 n,.slice a g.edges.length cap,.slice pa g.ins.length pc,.slice qa g.outs.length qc] g.ins.length sa sc n wr (.slice ga (g.ins.length+(gtE g.edges).length) gc) (.slice none 0 0) (gsK g (gtE (g.edges.take k)).length) l) (fun _ i _=>g.edges.length - (intOf i).toNat)
       case atStart=>exact ⟨0,Nat.zero_le _,rfl,by simp [gtE],hst⟩
       case round =>
        clear hst
        obtain ⟨k,hk,rfl,rfl,hst⟩:=hrel
        have hjM:(gtE (g.edges.take k)).length≤(gtE g.edges).length:=by
         have h1:(gtE (g.edges.take k)).Sublist (gtE g.edges):=(List.take_sublist k g.edges).filter _
         exact h1.length_le
        obtain ⟨N,hN⟩:∃ N,g.ins.length+(gtE (g.edges.take k)).length=N:=⟨_,rfl⟩
        have HNN:=Lib.hid hN
        have hNle:N≤80:=by omega
        by_cases hlk:k<g.edges.length
        ·obtain ⟨b',o,rfl,_,hed⟩:=HAT.out k hlk
         have hek:=HOK.out _ (List.getElem_mem hlk)
         have hri:=fun u (hu:u ∈ g.edges[k].ins)=>cg_ein h.good (List.getElem_mem hlk) hu
         have hsm:=h.small _ (List.getElem_mem hlk)
         have hgta:=gtE_at hlk
         have htk:gtE (g.edges.take (k+1))=gtE (g.edges.take k) ++ [g.edges[k]].filter isGt:=by unfold gtE;rw [List.take_succ_eq_append_getElem hlk,List.filter_append]
         obtain ⟨e,hee⟩:∃ e,g.edges[k]=e:=⟨_,rfl⟩
         rw [hee] at hed hek hri hsm hgta htk
         obtain ⟨c0,c1,wi,wo',c2,c3,hei,heo⟩:=hed
         obtain ⟨ia,ic,rfl⟩:=hei.slice
         obtain ⟨oa,oc,rfl⟩:=heo.slice
         replace c0:=cell_keep hst.bel c0
         replace c1:=cell_keep hst.bel c1
         replace c2:=cell_keep hst.bel c2
         replace c3:=cell_keep hst.bel c3
         have bz:=cell_lt c0
         have hA2:=alloc_below wr (.cells #[.int .i64 e.kind,.int .i64 e.value,.slice ia e.ins.length ic,.slice oa e.outs.length oc] 189)
         have kE:=Bk.new wr 189 #[.int .i64 e.kind,.int .i64 e.value,.slice ia e.ins.length ic,.slice oa e.outs.length oc]
         have hst2:=hst.keep hA2
         rw [hN]
         clear hst hA2 hee heo
         cases hgt:isGt e with
         | false =>
          have hk5:¬ (5:Int)≤e.kind:=fun hc=>by
           have:=ed_gt.2 ⟨hc,hsm⟩
           rw [hgt] at this;cases this
          rw [List.filter_cons_of_neg (by rw [hgt];simp),List.filter_nil,List.append_nil] at htk
          have HTK:=Lib.hid htk
          have HS:=Lib.hid hst2
          clear hgta htk hst2 hri kE hei hN
          go_wp2
          go_roundw
          case rel=>exact ⟨k+1,by omega,by go_num,by rw [HTK.out,HNN.out],by rw [HTK.out];exact HS.out⟩
          case measure=>simp [intOf];omega
         | true =>
          have hk5:=(ed_gt.1 hgt).1
          rw [List.filter_cons_of_pos hgt,List.filter_nil] at htk
          obtain ⟨hkE,hge⟩:=List.getElem?_eq_some_iff.1 (hgta hgt)
          have hat0:=gsK_at g hkE
          have hsucc:=gsK_succ g hkE
          have hbab:=bare_ab hgt
          rw [hge] at hat0 hsucc
          rw [hN] at hat0 hsucc
          have hHi:N<(gsK g (gtE (g.edges.take k)).length).length:=by rw [gsK_len g hjM];omega
          have hNM:N<g.ins.length+(gtE g.edges).length:=by omega
          have hNMi:(N:Int)<(g.ins.length:Int)+((gtE g.edges).length:Int):=by omega
          have hjs:gsK g (gtE (g.edges.take (k+1))).length=gsK g ((gtE (g.edges.take k)).length+1):=by rw [htk,List.length_append];rfl
          rw [← hjs] at hsucc
          have hN1:g.ins.length+(gtE (g.edges.take (k+1))).length=N+1:=by rw [htk,List.length_append,List.length_singleton];omega
          have HN1:=Lib.hid hN1
          generalize hgs:gsK g (gtE (g.edges.take k)).length=gs at *
          obtain ⟨bg,hbg⟩:∃ bg,bareG e=bg:=⟨_,rfl⟩
          have hfull:fullG (srcV g) e={ bg with a:=if 0<e.ins.length then srcV g (e.ins.getD 0 0) else 0,b:=if 1<e.ins.length then srcV g (e.ins.getD 1 0) else 0 }:=by unfold fullG;rw [hbg]
          rw [hbg] at hat0 hbab
          rw [hfull] at hsucc
          obtain ⟨kd,gga,ggb,ggv⟩:=bg
          simp only at hbab hsucc
          obtain ⟨rfl,rfl⟩:=hbab
          have hat1:gs[N]'hHi=⟨kd,0,0,ggv⟩:=(List.getElem?_eq_some_iff.1 hat0).2
          have HAT1:=Lib.hid hat1
          obtain ⟨GB,gc',e0,hGB,hGBw⟩:=hst2.rg.block (by omega)
          simp only [Value.slice.injEq] at e0
          obtain ⟨rfl,-,rfl⟩:=e0
          have hls:=hst2.ls
          have hgz:∀ z:Int,∀ m:Nat,z=m → 0≤z → m<n → ∀ hh:m<l.length,l[m]'hh=srcV g z:=fun z m hz h0 hm hh=>by
           have h1:=HEND.out z h0 (by have:=HN.out;omega)
           rw [hz,Int.toNat_natCast,List.getD_eq_getElem?_getD,List.getElem?_eq_getElem hh] at h1
           rw [hz]
           exact h1
          have HGZ:=Lib.hid hgz
          have HLS:=Lib.hid hls
          clear hgta htk hgt hge hat0 hfull hbg hkE hat1 hjs hN1 hgz hls hN hjM hgs
          have hlen0:e.ins.length=0∨e.ins.length=1∨e.ins.length=2:=by omega
          rcases hlen0 with hl0|hl0|hl0
          ·have n0:¬ (0:Int)<(e.ins.length:Int):=by omega
           have n1:¬ (1:Int)<(e.ins.length:Int):=by omega
           rw [if_neg (by omega),if_neg (by omega)] at hsucc
           have hsame:gsK g (gtE (g.edges.take (k+1))).length=gs:=by
            rw [hsucc,← HAT1.out]
            exact List.set_getElem_self _
           have HSC:=Lib.hid hsame
           have HS:=Lib.hid hst2
           clear hl0 hri hsucc hei hsame hst2
           go_wp2
           go_roundw
           case rel=>exact ⟨k+1,by omega,by go_num,by rw [HN1.out];go_num,by rw [HSC.out];exact HS.out⟩
           case measure=>simp [intOf];omega
          ·have n0:(0:Int)<(e.ins.length:Int):=by omega
           have n0':0<e.ins.length:=by omega
           have n1:¬ (1:Int)<(e.ins.length:Int):=by omega
           rw [if_pos n0',if_neg (by omega)] at hsucc
           obtain ⟨ib,io,rfl,f0⟩:=ints_cell hei (i:=0) (by omega)
           simp only [Nat.add_zero] at f0
           have hzr:=hri _ (List.getElem_mem (show 0<e.ins.length by omega))
           have hz0:e.ins[0]'(by omega)=e.ins.getD 0 0:=(getD0 (by omega)).symm
           rw [hz0] at f0 hzr
           obtain ⟨z0,hZ⟩:∃ z0:Nat,e.ins.getD 0 0=z0:=⟨(e.ins.getD 0 0).toNat,by omega⟩
           rw [hZ] at f0 hzr hsucc
           have hz0n:z0<n:=by have:=HN.out.1;omega
           replace f0:=cell_keep hst2.bel f0
           have hv:=HGZ.out (z0:Int) z0 rfl (by omega) hz0n (by rw [HLS.out];omega)
           obtain ⟨q,rfl,hq1,hq4⟩:=hst2.src (by omega)
           have s0:=Rw.cell hst2.rs z0 (by rw [HLS.out];omega)
           rw [hv] at s0
           generalize hV:srcV g (z0:Int)=V at *
           have HSC:=Lib.hid hsucc
           clear hl0 hz0 hri hsucc hei hV hv hZ hzr
           go_wp2_with fail
           generalize (wr.alloc (.cells #[.int .i64 e.kind,.int .i64 e.value,.slice (some ⟨ib,io,none⟩) e.ins.length ic,.slice oa e.outs.length oc] 189))=WW at *
           generalize wr.heap.size=eb at *
           have e2:=kE.cell.1 2
           have x1:=hst2.kc.cell.1 1
           simp only [List.getElem?_toArray,List.getElem?_cons_zero,List.getElem?_cons_succ] at e2 x1
           have ez:=kE.lt
           have xz:=hst2.kc.lt
           have fz0:=cell_lt f0
           have sz:=cell_lt s0
           obtain ⟨q',cq,eq,-,d0,df,hne,-⟩:=hst2.putG hHi (j:=1) (by omega) ⟨kd,V,0,ggv⟩ (.int .i64 V) (.int .i64 0) (by rw [HAT1.out];rfl) (by rw [HAT1.out];rfl)
           simp only [Value.slice.injEq,Option.some.injEq,Addr.mk.injEq,and_true] at eq
           obtain ⟨rfl,-,-⟩:=eq
           have heb:=hne kE (by decide)
           have dz:=cell_lt d0
           refine region_acts2 (C:=Exc (NoT) _) 9 [0,1,2,3,4,5,6,7,8,9,10,11] [12] (by kernel_rfl) (by kernel_rfl) (Exc.grows _ _) (Exc.refl _ _) ?_
           iterate 12 (apply x_st rfl rfl rfl;(focus intro u hc' hf';go_simp <;> rfl);intro K hK;go_simp;apply hK;clear hK K)
           refine x_nil ?_
           refine ⟨Exc (fun j=>j=GB) WW.drew,WW.drew.heap.size,Exc.grows _ _,Exc.refl _ _,?_⟩
           refine x_do rfl rfl rfl (Exc.grows _ _) (Exc.refl _ _) (fun K hK=>?_)
           intro w8 hw8 hb8
           have hBW:Below WW.heap.size WW w8:=(Below.refl WW.heap.size WW).drew.trans (hb8.mono (by simp))
           have hst8:=hst2.keep hBW
           have kE8:=kE.keep hBW
           clear s0 f0 e2 x1 d0 df
           obtain ⟨q',cq,eq,-,d0,df,-,hst9⟩:=hst8.putG hHi (j:=1) (by omega) ⟨kd,V,0,ggv⟩ (.int .i64 V) (.int .i64 0) (by rw [HAT1.out];rfl) (by rw [HAT1.out];rfl)
           simp only [Value.slice.injEq,Option.some.injEq,Addr.mk.injEq,and_true] at eq
           obtain ⟨rfl,-,-⟩:=eq
           refine ⟨w8.setCell ⟨GB,N * 4+1,none⟩ (.int .i64 V),?_,⟨exc_set hw8 (.inr rfl) _,by simp,fun j hj _ _=>by
            have hj2:¬ (j=GB):=by intro hh;simp only [World.size_drew] at hj;omega
            rw [Below.heap_setCell _ _ _ _ (fun h=>hj2 (by simpa using h))]⟩,?_⟩
           ·go_simp
           go_simp
           refine hK _ _ _ ?_
           clear hK K
           refine x_nil ?_
           have kE9:=kE8.other ⟨GB,N * 4+1,none⟩ (.int .i64 V) heb
           generalize (w8.setCell ⟨GB,N * 4+1,none⟩ (.int .i64 V))=W9 at *
           have e2:=kE9.cell.1 2
           have ez:=kE9.lt
           simp only [List.getElem?_toArray,List.getElem?_cons_zero,List.getElem?_cons_succ] at e2
           clear hst8 kE8 hw8 hb8 hBW d0 df hne
           have HS:=Lib.hid hst9
           clear hst9 hst2 kE
           go_wp2
           go_roundw
           case rel=>exact ⟨k+1,by omega,by go_num,by rw [HN1.out];go_num,by rw [HSC.out];exact HS.out⟩
           case measure=>simp [intOf];omega
          ·have n0:(0:Int)<(e.ins.length:Int):=by omega
           have n0':0<e.ins.length:=by omega
           have n1:(1:Int)<(e.ins.length:Int):=by omega
           have n1':1<e.ins.length:=by omega
           rw [if_pos n0',if_pos n1'] at hsucc
           obtain ⟨ib,io,rfl,f0⟩:=ints_cell hei (i:=0) (by omega)
           obtain ⟨ib2,io2,eib,f1⟩:=ints_cell hei (i:=1) (by omega)
           simp only [Option.some.injEq,Addr.mk.injEq,and_true] at eib
           obtain ⟨rfl,rfl⟩:=eib
           have hzr1:=hri _ (List.getElem_mem (show 1<e.ins.length by omega))
           have hz1:e.ins[1]'(by omega)=e.ins.getD 1 0:=(getD1 (by omega)).symm
           rw [hz1] at f1 hzr1
           obtain ⟨z1,hZ1⟩:∃ z1:Nat,e.ins.getD 1 0=z1:=⟨(e.ins.getD 1 0).toNat,by omega⟩
           rw [hZ1] at f1 hzr1 hsucc
           have hz1n:z1<n:=by have:=HN.out.1;omega
           have hv1:=HGZ.out (z1:Int) z1 rfl (by omega) hz1n (by rw [HLS.out];omega)
           have F1:=Lib.hid f1
           simp only [Nat.add_zero] at f0
           have hzr:=hri _ (List.getElem_mem (show 0<e.ins.length by omega))
           have hz0:e.ins[0]'(by omega)=e.ins.getD 0 0:=(getD0 (by omega)).symm
           rw [hz0] at f0 hzr
           obtain ⟨z0,hZ⟩:∃ z0:Nat,e.ins.getD 0 0=z0:=⟨(e.ins.getD 0 0).toNat,by omega⟩
           rw [hZ] at f0 hzr hsucc
           have hz0n:z0<n:=by have:=HN.out.1;omega
           replace f0:=cell_keep hst2.bel f0
           have hv:=HGZ.out (z0:Int) z0 rfl (by omega) hz0n (by rw [HLS.out];omega)
           obtain ⟨q,rfl,hq1,hq4⟩:=hst2.src (by omega)
           have s0:=Rw.cell hst2.rs z0 (by rw [HLS.out];omega)
           rw [hv] at s0
           generalize hV:srcV g (z0:Int)=V at *
           generalize hU:srcV g (z1:Int)=U at *
           have HV1:=Lib.hid hv1
           have HSC:=Lib.hid hsucc
           clear hl0 hz0 hri hsucc hei hV hv hZ hzr hz1 hU hv1 hZ1 hzr1 f1
           go_wp2_with fail
           generalize (wr.alloc (.cells #[.int .i64 e.kind,.int .i64 e.value,.slice (some ⟨ib,io,none⟩) e.ins.length ic,.slice oa e.outs.length oc] 189))=WW at *
           generalize wr.heap.size=eb at *
           have e2:=kE.cell.1 2
           have x1:=hst2.kc.cell.1 1
           simp only [List.getElem?_toArray,List.getElem?_cons_zero,List.getElem?_cons_succ] at e2 x1
           have ez:=kE.lt
           have xz:=hst2.kc.lt
           have fz0:=cell_lt f0
           have sz:=cell_lt s0
           obtain ⟨q',cq,eq,-,d0,df,hne,-⟩:=hst2.putG hHi (j:=1) (by omega) ⟨kd,V,0,ggv⟩ (.int .i64 V) (.int .i64 0) (by rw [HAT1.out];rfl) (by rw [HAT1.out];rfl)
           simp only [Value.slice.injEq,Option.some.injEq,Addr.mk.injEq,and_true] at eq
           obtain ⟨rfl,-,-⟩:=eq
           have heb:=hne kE (by decide)
           have dz:=cell_lt d0
           refine region_acts2 (C:=Exc (NoT) _) 9 [0,1,2,3,4,5,6,7,8,9,10,11] [12] (by kernel_rfl) (by kernel_rfl) (Exc.grows _ _) (Exc.refl _ _) ?_
           iterate 12 (apply x_st rfl rfl rfl;(focus intro u hc' hf';go_simp <;> rfl);intro K hK;go_simp;apply hK;clear hK K)
           refine x_nil ?_
           refine ⟨Exc (fun j=>j=GB) WW.drew,WW.drew.heap.size,Exc.grows _ _,Exc.refl _ _,?_⟩
           refine x_do rfl rfl rfl (Exc.grows _ _) (Exc.refl _ _) (fun K hK=>?_)
           intro w8 hw8 hb8
           have hBW:Below WW.heap.size WW w8:=(Below.refl WW.heap.size WW).drew.trans (hb8.mono (by simp))
           have hst8:=hst2.keep hBW
           have kE8:=kE.keep hBW
           clear s0 f0 e2 x1 d0 df
           obtain ⟨q',cq,eq,-,d0,df,-,hst9⟩:=hst8.putG hHi (j:=1) (by omega) ⟨kd,V,0,ggv⟩ (.int .i64 V) (.int .i64 0) (by rw [HAT1.out];rfl) (by rw [HAT1.out];rfl)
           simp only [Value.slice.injEq,Option.some.injEq,Addr.mk.injEq,and_true] at eq
           obtain ⟨rfl,-,-⟩:=eq
           refine ⟨w8.setCell ⟨GB,N * 4+1,none⟩ (.int .i64 V),?_,⟨exc_set hw8 (.inr rfl) _,by simp,fun j hj _ _=>by
            have hj2:¬ (j=GB):=by intro hh;simp only [World.size_drew] at hj;omega
            rw [Below.heap_setCell _ _ _ _ (fun h=>hj2 (by simpa using h))]⟩,?_⟩
           ·go_simp
           go_simp
           refine hK _ _ _ ?_
           clear hK K
           refine x_nil ?_
           have kE9:=kE8.other ⟨GB,N * 4+1,none⟩ (.int .i64 V) heb
           generalize (w8.setCell ⟨GB,N * 4+1,none⟩ (.int .i64 V))=W9 at *
           have e2:=kE9.cell.1 2
           have ez:=kE9.lt
           simp only [List.getElem?_toArray,List.getElem?_cons_zero,List.getElem?_cons_succ] at e2
           clear hst8 kE8 hw8 hb8 hBW d0 df hne
           have s0:=Rw.cell hst9.rs z1 (by rw [HLS.out];omega)
           rw [HV1.out] at s0
           have f0:=cell_keep hst9.bel F1.out
           have x1:=hst9.kc.cell.1 1
           simp only [List.getElem?_toArray,List.getElem?_cons_zero,List.getElem?_cons_succ] at x1
           have xz:=hst9.kc.lt
           have fz0:=cell_lt f0
           have sz:=cell_lt s0
           have hHi9:N<(gs.set N ⟨kd,V,0,ggv⟩).length:=by rw [List.length_set];exact hHi
           obtain ⟨q',cq,eq,-,d0,df,-,-⟩:=hst9.putG hHi9 (j:=2) (by omega) ⟨kd,V,U,ggv⟩ (.int .i64 U) (.int .i64 0) (by rw [List.getElem_set_self];rfl) (by rw [List.getElem_set_self];rfl)
           simp only [Value.slice.injEq,Option.some.injEq,Addr.mk.injEq,and_true] at eq
           obtain ⟨rfl,-,-⟩:=eq
           have dz:=cell_lt d0
           clear hst2 kE
           go_wp2_with fail
           refine region_acts2 (C:=Exc (NoT) _) 9 [0,1,2,3,4,5,6,7,8,9,10,11] [12] (by kernel_rfl) (by kernel_rfl) (Exc.grows _ _) (Exc.refl _ _) ?_
           iterate 12 (apply x_st rfl rfl rfl;(focus intro u hc' hf';go_simp <;> rfl);intro K hK;go_simp;apply hK;clear hK K)
           refine x_nil ?_
           refine ⟨Exc (fun j=>j=GB) W9.drew,W9.drew.heap.size,Exc.grows _ _,Exc.refl _ _,?_⟩
           refine x_do rfl rfl rfl (Exc.grows _ _) (Exc.refl _ _) (fun K hK=>?_)
           intro w8 hw8 hb8
           have hBW:Below W9.heap.size W9 w8:=(Below.refl W9.heap.size W9).drew.trans (hb8.mono (by simp))
           have hst8:=hst9.keep hBW
           clear s0 f0 e2 x1 d0 df
           obtain ⟨q',cq,eq,-,d0,df,-,hst10⟩:=hst8.putG hHi9 (j:=2) (by omega) ⟨kd,V,U,ggv⟩ (.int .i64 U) (.int .i64 0) (by rw [List.getElem_set_self];rfl) (by rw [List.getElem_set_self];rfl)
           simp only [Value.slice.injEq,Option.some.injEq,Addr.mk.injEq,and_true] at eq
           obtain ⟨rfl,-,-⟩:=eq
           rw [List.set_set] at hst10
           refine ⟨w8.setCell ⟨GB,N * 4+2,none⟩ (.int .i64 U),?_,⟨exc_set hw8 (.inr rfl) _,by simp,fun j hj _ _=>by
            have hj2:¬ (j=GB):=by intro hh;simp only [World.size_drew] at hj;omega
            rw [Below.heap_setCell _ _ _ _ (fun h=>hj2 (by simpa using h))]⟩,?_⟩
           ·go_simp
           go_simp
           refine hK _ _ _ ?_
           clear hK K
           refine x_nil ?_
           have HS:=Lib.hid hst10
           generalize (w8.setCell ⟨GB,N * 4+2,none⟩ (.int .i64 U))=W10 at *
           clear hst8 hst9 hst10 hw8 hb8 hBW d0 df
           go_wp2
           go_roundw
           case rel=>exact ⟨k+1,by omega,by go_num,by rw [HN1.out];go_num,by rw [HSC.out];exact HS.out⟩
           case measure=>simp [intOf];omega
        ·obtain rfl:k=g.edges.length:=by omega
         have htl:gtE (g.edges.take g.edges.length)=gtE g.edges:=by rw [List.take_length]
         rw [htl,gsK_all g] at hst
         have hin:∀ z ∈ g.outs,0≤z∧z<l.length:=fun z hz=>by
          have:=cg_in h.good z (List.mem_append_right _ (List.mem_append_left _ hz))
          have h2:=HN.out.1
          rw [hst.ls];omega
         have hpk:pickL l g.outs=crOs g:=by
          unfold pickL crOs
          refine List.map_congr_left (fun z hz=>?_)
          have h1:=hin z hz
          have h2:=HEND.out z h1.1 (by have:=HN.out;rw [hst.ls] at h1;omega)
          rw [List.getD_eq_getElem?_getD,List.getElem?_eq_getElem (by omega)] at h2 ⊢
          exact h2
         have hls:=hst.ls
         have hhl:=hgList_any (.slice sa n sc) (.slice qa g.outs.length qc) l g.outs wr hst.rs.at (HO.out.keep hst.bel) hin (by omega) (by omega)
         rw [hpk] at hhl
         have HHL:=Lib.hid hhl
         have hgl:(crGs g).length=g.ins.length+(gtE g.edges).length:=by rw [← gsK_all,gsK_len g (Nat.le_refl _)]
         have hol:(crOs g).length=g.outs.length:=by simp [crOs]
         have x3:=hst.kg.cell.1 3
         have xz:=hst.kg.lt
         simp only [List.getElem?_toArray,List.getElem?_cons_zero,List.getElem?_cons_succ] at x3
         clear hhl hpk hin htl hls hN hjM
         go_wp2_with fail
         refine HHL.out.mono ?_
         rintro e' w2 ⟨u,rfl,hu,hb2⟩
         obtain ⟨ua,uc,huo⟩:=hu.slice
         rw [hol] at huo
         subst huo
         have hst2:=hst.keep hb2
         have hst3:=hst2.putO (.slice ua g.outs.length uc)
         have hu3:=(hu.mono (B':=w.heap.size) hst.bel.size).setB hst2.kc (by decide) 2 (.slice ua g.outs.length uc)
         obtain ⟨y0,yf,yz⟩:=hst2.kc.cell
         have y1:=y0 1
         have y2:=y0 2
         have y0:=y0 0
         obtain ⟨z0,zf,zz⟩:=hst2.kz.cell
         have z1:=z0 1
         have z2:=z0 2
         have z0:=z0 0
         simp only [List.getElem?_toArray,List.getElem?_cons_zero,List.getElem?_cons_succ] at y0 y1 y2 z0 z1 z2
         have q1:=((hst3.rg.setB hst3.kz (by decide) 0 (.int .i64 g.ins.length)).setB (hst3.kz.set 0 _) (by decide) 1 (.slice ga (g.ins.length+(gtE g.edges).length) gc)).setB ((hst3.kz.set 0 _).set 1 _) (by decide) 2 (.slice ua g.outs.length uc)
         have q2:=((hu3.setB hst3.kz (by decide) 0 (.int .i64 g.ins.length)).setB (hst3.kz.set 0 _) (by decide) 1 (.slice ga (g.ins.length+(gtE g.edges).length) gc)).setB ((hst3.kz.set 0 _).set 1 _) (by decide) 2 (.slice ua g.outs.length uc)
         have q3:=((hst3.bel.setCell (show w.heap.size≤(⟨w.heap.size+1,0,none⟩:Addr).block by simp) (.int .i64 g.ins.length)).setCell (show w.heap.size≤(⟨w.heap.size+1,1,none⟩:Addr).block by simp) (.slice ga (g.ins.length+(gtE g.edges).length) gc)).setCell (show w.heap.size≤(⟨w.heap.size+1,2,none⟩:Addr).block by simp) (.slice ua g.outs.length uc)
         have HS:=Lib.hid (And.intro q1 (And.intro q2 q3))
         have HL:=Lib.hid (And.intro hgl hol)
         clear q1 q2 q3 hst hst2 hst3 hu hu3 hgl hol hb2 x3 xz
         go_wp2
         refine bodyPost_ret (v:=.agg #[.int .i64 g.ins.length,.slice ga (g.ins.length+(gtE g.edges).length) gc,.slice ua g.outs.length uc]) (by simp [results,Tryz.results137,go_sem,z0,z1,z2,zf,zz]) rfl ?_
         exact ⟨ga,gc,ua,uc,by rw [HL.out.1,HL.out.2],by rw [HL.out.1];exact HS.out.1,by rw [HL.out.2];exact HS.out.2.1,HS.out.2.2⟩
end Go.Proofs.YtbljmfcifljkaaaGreatDoor
