/-
  The circuit of a graph, by the program. Own work.
-/
import Derived.Test.YtbljmfcifljkaaaGreatDoorXAW
set_option linter.all false
set_option maxRecDepth 100000
set_option maxHeartbeats 8000000
namespace Go.Proofs.YtbljmfcifljkaaaGreatDoor
open Go.RowKit
set_option maxRecDepth 100000
set_option maxHeartbeats 2000000
theorem ed_len2 {e:EdI} (h:edB e=true):e.ins.length≤2∧e.outs.length≤2:=by
 unfold edB at h
 simp only [Bool.and_eq_true,decide_eq_true_eq] at h
 have h4:=h.2.2
 unfold kindW at h4
 repeat' split at h4
 all_goals
  simp only [Prod.mk.injEq] at h4
  omega
theorem circuit_any (g:GrI) (h:CgOk g) (ve vi vo:Value) (w:World) (hE:EdsAt w ve g.edges) (hI:IntsAt w vi g.ins) (hO:IntsAt w vo g.outs) (hlE:g.edges.length≤60) (hlW:0≤g.wires∧g.wires≤100) (hlI:g.ins.length≤12) (hlO:g.outs.length≤12) :
  Calls Tryz.prog 146 #[.agg #[.int .i64 g.wires,ve,vi,vo]] w (CirP g.ins.length (crGs g) (crOs g) w):=by
 have hEk:=fun (U:World) (hb:Below w.heap.size w U)=>(SlAt.mono hE fun _ _ _ ⟨hi,r⟩=>⟨hi,r.keep hb⟩:EdsAt U ve g.edges)
 obtain ⟨a,cap,rfl,hc,hat⟩:=hE
 obtain ⟨pa,pc,rfl⟩:=hI.slice
 obtain ⟨qa,qc,rfl⟩:=hO.slice
 have hok2:∀ e ∈ g.edges,e.ins.length≤2∧e.outs.length≤2:=fun e he=>ed_len2 (cg_edB h.good e he)
 obtain ⟨n,hn⟩:∃ n:Nat,g.wires.toNat=n:=⟨_,rfl⟩
 have hgw:g.wires=(n:Int):=by omega
 have HN:=Lib.hid (And.intro hn hgw)
 have hnn:n≤100:=by omega
 rw [hgw]
 have hins:∀ k,∀ hk:k<g.ins.length,0≤g.ins[k]∧(g.ins[k]).toNat<n:=fun k hk=>by
  have:=cg_in h.good _ (List.mem_append_left _ (List.getElem_mem hk))
  omega
 have houts:∀ k,∀ hk:k<g.outs.length,0≤g.outs[k]∧(g.outs[k]).toNat<n:=fun k hk=>by
  have:=cg_in h.good _ (List.mem_append_right _ (List.mem_append_left _ (List.getElem_mem hk)))
  omega
 have hA1:=alloc_below w (.cells #[.int .i64 n,.slice a g.edges.length cap,.slice pa g.ins.length pc,.slice qa g.outs.length qc] 53)
 have hA2:=alloc_below (w.alloc (.cells #[.int .i64 n,.slice a g.edges.length cap,.slice pa g.ins.length pc,.slice qa g.outs.length qc] 53)) (.cells #[.int .i64 0,.slice none 0 0,.slice none 0 0] 112)
 have hA3:=alloc_below ((w.alloc (.cells #[.int .i64 n,.slice a g.edges.length cap,.slice pa g.ins.length pc,.slice qa g.outs.length qc] 53)).alloc (.cells #[.int .i64 0,.slice none 0 0,.slice none 0 0] 112)) (.cells #[.int .i64 g.ins.length,.slice none 0 0,.slice none 0 0] 112)
 have kG:=((Bk.new w 53 #[.int .i64 n,.slice a g.edges.length cap,.slice pa g.ins.length pc,.slice qa g.outs.length qc]).keep hA2).keep hA3
 have kZ:=(Bk.new (w.alloc (.cells #[.int .i64 n,.slice a g.edges.length cap,.slice pa g.ins.length pc,.slice qa g.outs.length qc] 53)) 112 #[.int .i64 0,.slice none 0 0,.slice none 0 0]).keep hA3
 have kK:=Bk.new ((w.alloc (.cells #[.int .i64 n,.slice a g.edges.length cap,.slice pa g.ins.length pc,.slice qa g.outs.length qc] 53)).alloc (.cells #[.int .i64 0,.slice none 0 0,.slice none 0 0] 112)) 112 #[.int .i64 g.ins.length,.slice none 0 0,.slice none 0 0]
 simp only [World.size_alloc] at kZ kK
 have hB:=(hA1.trans (hA2.mono hA1.size)).trans (hA3.mono (by simp;omega))
 have HEK:=Lib.hid hEk
 have HAT:=Lib.hid hat
 have HI:=Lib.hid hI
 have HO:=Lib.hid hO
 have HINS:=Lib.hid hins
 have HOUTS:=Lib.hid houts
 have HOK:=Lib.hid hok2
 clear hEk hat hI hO hins houts hok2 hn hgw hA1 hA2 hA3
 go_enter Tryz.func146,Tryz.ntmps146
 go_wp2_with fail
 generalize (((w.alloc (.cells #[.int .i64 n,.slice a g.edges.length cap,.slice pa g.ins.length pc,.slice qa g.outs.length qc] 53)).alloc (.cells #[.int .i64 0,.slice none 0 0,.slice none 0 0] 112)).alloc (.cells #[.int .i64 g.ins.length,.slice none 0 0,.slice none 0 0] 112))=u0 at *
 refine (repeated_any (-1) n u0 (by omega)).mono ?_
 rintro e w1 ⟨v,rfl,hv,hb1⟩
 obtain ⟨sa,sc,rfl⟩:=hv.slice
 rw [List.length_replicate] at *
 have hA4:=alloc_below w1 (.cells #[.slice sa n sc] 40)
 have kS:=Bk.new w1 40 #[.slice sa n sc]
 have hst:CtS w #[.int .i64 n,.slice a g.edges.length cap,.slice pa g.ins.length pc,.slice qa g.outs.length qc] w1.heap.size g.ins.length sa sc n (w1.alloc (.cells #[.slice sa n sc] 40)) (.slice none 0 0) (.slice none 0 0) (srcI g 0).2 (srcI g 0).1 :=
  ⟨(kG.keep hb1).keep hA4,(kZ.keep hb1).keep hA4,(kK.keep hb1).keep hA4,kS,World.ownsRow_nil _ _ _ _,by
   have hz:(srcI g 0).1=List.replicate n (-1):=by unfold srcI;rw [HN.out.1];rfl
   rw [hz]
   exact (hv.mono (by have:=hB.size;omega)).keep hA4,by simp [srcI,HN.out.1],(hB.trans (hb1.mono hB.size)).trans (hA4.mono (by have:=hB.size;have:=hb1.size;omega))⟩
 have x0:=hst.kg.cell.1 2
 have xz:=hst.kg.lt
 simp only [List.getElem?_toArray,List.getElem?_cons_zero,List.getElem?_cons_succ] at x0
 clear hb1 hA4 kS kG kZ kK hv hB
 go_wp2_with fail
 generalize (w1.alloc (.cells #[.slice sa n sc] 40))=u1 at hst x0 xz ⊢
 generalize w1.heap.size=bs at *
 clear x0 xz
 go_loopw [29] (fun i wr=>∃ k:Nat,k≤g.ins.length∧i=.int .i64 k∧∃ vg,CtS w #[.int .i64 n,.slice a g.edges.length cap,.slice pa g.ins.length pc,.slice qa g.outs.length qc] bs g.ins.length sa sc n wr vg (.slice none 0 0) (srcI g k).2 (srcI g k).1) (fun i _=>g.ins.length - (intOf i).toNat)
 case atStart=>exact ⟨0,Nat.zero_le _,rfl,_,hst⟩
 case round =>
  clear hst
  obtain ⟨k,hk,rfl,vg,hst⟩:=hrel
  by_cases hlk:k<g.ins.length
  ·obtain ⟨pb,po,rfl,d0⟩:=ints_cell (HI.out.keep hst.bel) hlk
   have hir:=HINS.out k hlk
   have hsu:=srcI_succ g hlk
   have hgl:(srcI g k).2=inGs k:=srcI_gs g k hk
   obtain ⟨m,hm⟩:∃ m:Nat,g.ins[k]=m:=⟨(g.ins[k]).toNat,by omega⟩
   rw [hm] at d0 hir hsu
   rw [Int.toNat_natCast] at hir
   unfold stI at hsu
   rw [Int.toNat_natCast,hgl,inGs_len] at hsu
   rw [hgl] at hst
   obtain ⟨ga,gc,rfl⟩:=hst.rg.slice
   rw [inGs_len] at *
   obtain ⟨q,rfl,hq1,hq2,hq3,hq4⟩:=hst.src (by omega)
   have dz:=cell_lt d0
   have x1:=hst.kc.cell.1 1
   have xz:=hst.kc.lt
   simp only [List.getElem?_toArray,List.getElem?_cons_zero,List.getElem?_cons_succ] at x1
   have hA2:=alloc_below wr (.cells #[.int .i64 1,.int .i64 0,.int .i64 0,.int .i64 k] 203)
   have hst2:=hst.keep hA2
   have h1:=gat_one wr ⟨1,0,0,k⟩
   have hrow2:=hst2.rg
   have hble:=hst2.bel.size
   have HS2:=Lib.hid hst2
   have HSU:=Lib.hid hsu
   have HGL:=Lib.hid (inGs_len k)
   have HQ:=Lib.hid hq4
   clear hst hst2 hA2 hm hsu hgl hq4
   go_wp2_with (at_builtin;go_must (refine gts_append h1 rfl (.tmp 35) (.tmp 38) rfl w.heap.size _ (inGs k) rfl rfl hrow2 hble (by rw [HGL.out];simp only [List.length_singleton];omega) ?_);intro v5 w5 q1 q2 q3;obtain ⟨va,vc,rfl⟩:=q1.slice;rw [show (inGs k ++ [(⟨1,0,0,(k:Int)⟩:GtI)]).length=(inGs k).length+1 by simp] at q1;obtain ⟨kc5,ks5,rs5,hst5⟩:=HS2.out.app q2 q1;have f5:=kc5.cell.2.1 1;have y5:=kc5.cell.1 1;have s5:=ks5.cell.1 0;simp only [List.getElem?_toArray,List.getElem?_cons_zero,List.getElem?_cons_succ] at y5 s5;have z5:=kc5.lt;have sz5:=ks5.lt;obtain ⟨⟨g5,gf5⟩,-⟩:=Rw.put rs5 HS2.out.ls hir.2 (k:Int);have gz5:=cell_lt g5)
   obtain ⟨q',old,e',-,-,-,-,hst6⟩:=hst5.putS hir.2 (k:Int)
   simp only [Option.some.injEq,Addr.mk.injEq,and_true] at e'
   subst e'
   go_roundw
   case rel=>exact ⟨k+1,by omega,by go_num,_,by rw [HSU.out];exact hst6⟩
   case measure=>simp [intOf];omega
  ·obtain rfl:k=g.ins.length:=by omega
   have hA2:=alloc_below wr (.cells #[] 189)
   have hst2:=hst.keep hA2
   rw [← srcE_zero] at hst2
   have hev0:=ev_nil w wr w.heap.size hst.bel.size
   have x1:=hst2.kg.cell.1 1
   have xz:=hst2.kg.lt
   simp only [List.getElem?_toArray,List.getElem?_cons_zero,List.getElem?_cons_succ] at x1
   clear hst hA2
   go_wp2_with fail
   generalize (wr.alloc (.cells #[] 189))=u2 at *
   generalize wr.heap.size=b9 at *
   clear x1 xz
   go_loopw [7,50] (fun ev i wr=>∃ k:Nat,k≤g.edges.length∧i=.int .i64 k∧∃ vg xs,CtS w #[.int .i64 n,.slice a g.edges.length cap,.slice pa g.ins.length pc,.slice qa g.outs.length qc] bs g.ins.length sa sc n wr vg (.slice none 0 0) (srcE g k).2 (srcE g k).1∧EvR w wr w.heap.size ev xs∧xs.map Prod.fst=gtE (g.edges.take k)) (fun _ i _=>g.edges.length - (intOf i).toNat)
   case atStart=>exact ⟨0,Nat.zero_le _,rfl,_,[],hst2,hev0,rfl⟩
   case round =>
    clear hst2 hev0
    obtain ⟨k,hk,rfl,vg,xs,hst,hev,hxs⟩:=hrel
    obtain ⟨ra,rc,rfl⟩:=hev.slice
    by_cases hlk:k<g.edges.length
    ·obtain ⟨b,o,rfl,_,hed⟩:=HAT.out k hlk
     have hse:=srcE_succ g hlk
     have hek:=HOK.out _ (List.getElem_mem hlk)
     have hro:=fun u (hu:u ∈ g.edges[k].outs)=>cg_eout h.good (List.getElem_mem hlk) hu
     have hcase:=ed_cases (cg_edB h.good _ (List.getElem_mem hlk)) (h.small _ (List.getElem_mem hlk))
     have htk:gtE (g.edges.take (k+1))=gtE (g.edges.take k) ++ [g.edges[k]].filter isGt:=by unfold gtE;rw [List.take_succ_eq_append_getElem hlk,List.filter_append]
     have hxl:xs.length≤60:=by
      have h1:=congrArg List.length hxs
      rw [List.length_map] at h1
      have h2:=List.length_filter_le isGt (g.edges.take k)
      rw [List.length_take] at h2
      unfold gtE at h1
      omega
     have hgl:(srcE g k).2.length≤80:=by
      rw [srcE_gs g k hk,List.length_append,inGs_len,List.length_map,← hxs,List.length_map]
      omega
     obtain ⟨e,hee⟩:∃ e,g.edges[k]=e:=⟨_,rfl⟩
     rw [hee] at hed hek hse hro hcase htk
     obtain ⟨c0,c1,wi,wo,c2,c3,hei,heo⟩:=hed
     have hok0:EvOk w (e,wi,wo):=⟨hei,heo⟩
     obtain ⟨ia,ic,rfl⟩:=hei.slice
     obtain ⟨oa,oc,rfl⟩:=heo.slice
     replace c0:=cell_keep hst.bel c0
     replace c1:=cell_keep hst.bel c1
     replace c2:=cell_keep hst.bel c2
     replace c3:=cell_keep hst.bel c3
     have bz:=cell_lt c0
     have hA2:=alloc_below wr (.cells #[.int .i64 e.kind,.int .i64 e.value,.slice ia e.ins.length ic,.slice oa e.outs.length oc] 189)
     have kE:=Bk.new wr 189 #[.int .i64 e.kind,.int .i64 e.value,.slice ia e.ins.length ic,.slice oa e.outs.length oc]
     have hst2:=hst.keep hA2
     have hev2:=hev.keep hA2
     have hgo:∀ U,Calls Tryz.prog 213 #[.agg #[.int .i64 e.kind,.int .i64 e.value,.slice ia e.ins.length ic,.slice oa e.outs.length oc]] U fun e' w'=>e'=.returned (.tuple #[gtV (bareG e),.bool (isGt e)])∧Below U.heap.size U w':=fun U=>gateOf_any e.kind e.value _ _ U
     obtain ⟨gb,hgb⟩:∃ gb,bareG e=gb:=⟨_,rfl⟩
     have HSZ:=Lib.hid (show w.heap.size≤wr.heap.size from hst.bel.size)
     clear hst hev hA2 hee
     cases hgt:isGt e with
     | false =>
      rw [hgt,hgb] at hgo
      rw [stE_no hgt] at hse
      rw [List.filter_cons_of_neg (by rw [hgt];simp),List.filter_nil,List.append_nil] at htk
      obtain ⟨kd,gga,ggb,ggv⟩:=gb
      unfold gtV at hgo
      have HGO:=Lib.hid hgo
      have HSE:=Lib.hid (And.intro hse htk)
      clear hgo hse htk hgb hcase hro
      go_wp2_with fail
      refine (HGO.out _).mono ?_
      rintro e' w2 ⟨rfl,hb2⟩
      have hA3:=alloc_below w2 (.cells #[.int .i64 kd,.int .i64 gga,.int .i64 ggb,.int .i64 ggv] 203)
      have hb3:=hb2.trans (hA3.mono hb2.size)
      have HS:=Lib.hid (And.intro (hst2.keep hb3) (hev2.keep hb3))
      clear hst2 hev2 hb3 hA3 hb2 kE
      go_wp2
      go_roundw
      case rel=>exact ⟨k+1,by omega,by go_num,_,xs,by rw [HSE.out.1];exact HS.out.1,HS.out.2,by rw [HSE.out.2];exact hxs⟩
      case measure=>simp [intOf];omega
     | true =>
      rw [hgt,hgb] at hgo
      rw [stE_yes hgt,hgb] at hse
      rw [List.filter_cons_of_pos hgt,List.filter_nil] at htk
      have hshape:e.outs.length=1:=by
       rcases hcase with h2|h2|h2
       ·rw [h2.2.2.2] at hgt;cases hgt
       ·rw [h2.2.2] at hgt;cases hgt
       ·exact h2.2.1
      obtain ⟨ob,oo,rfl,f0⟩:=ints_cell heo (i:=0) (by omega)
      have hm0:=hro _ (List.getElem_mem (show 0<e.outs.length by omega))
      rw [← getD0 (show 0<e.outs.length by omega)] at hm0
      have hfz:e.outs[0]'(by omega)=e.outs.getD 0 0:=(getD0 (by omega)).symm
      rw [hfz] at f0
      obtain ⟨m,hm⟩:∃ m:Nat,e.outs.getD 0 0=m:=⟨(e.outs.getD 0 0).toNat,by omega⟩
      rw [hm] at f0 hm0 hse
      rw [Int.toNat_natCast] at hse
      have hmn:m<n:=by have:=HN.out.1;omega
      have f0w:=cell_lt f0
      obtain ⟨q,rfl,hq1,hq2,hq3,hq4⟩:=hst2.src (by omega)
      obtain ⟨kd,gga,ggb,ggv⟩:=gb
      unfold gtV at hgo
      have HGO:=Lib.hid hgo
      have HSE:=Lib.hid (And.intro hse htk)
      have hpos:(0:Int)<(e.outs.length:Int):=by omega
      have hpos2:0<e.outs.length:=by omega
      simp only [Nat.add_zero] at f0
      have F0:=Lib.hid f0
      have hxs0:=Lib.hid hxs
      clear hgo hse htk hgb hcase hro hshape hm hm0 hfz heo hxs f0
      go_wp2_with fail
      refine (HGO.out _).mono ?_
      rintro e' w2 ⟨rfl,hb2⟩
      have hA3:=alloc_below w2 (.cells #[.int .i64 kd,.int .i64 gga,.int .i64 ggb,.int .i64 ggv] 203)
      have hb3:=hb2.trans (hA3.mono hb2.size)
      have kT:=Bk.new w2 203 #[.int .i64 kd,.int .i64 gga,.int .i64 ggb,.int .i64 ggv]
      have hst3:=hst2.keep hb3
      have hev3:=hev2.keep hb3
      have kE3:=kE.keep hb3
      clear hst2 hev2 kE hb3 hA3 hb2 c0 c1 c2 c3 bz
      go_wp2_with fail
      generalize (w2.alloc (.cells #[.int .i64 kd,.int .i64 gga,.int .i64 ggb,.int .i64 ggv] 203))=WW at *
      generalize w2.heap.size=tb at *
      generalize wr.heap.size=eb at *
      obtain ⟨ga,gc,rfl⟩:=hst3.rg.slice
      have s0:=hst3.ks.cell.1 0
      have e3:=kE3.cell.1 3
      have x1:=hst3.kc.cell.1 1
      simp only [List.getElem?_toArray,List.getElem?_cons_zero,List.getElem?_cons_succ] at s0 e3 x1
      have f0:=cell_keep hst3.bel F0.out
      obtain ⟨q',old,e8,-,g0,gf,-,-⟩:=hst3.putS hmn ((srcE g k).2.length:Int)
      simp only [Option.some.injEq,Addr.mk.injEq,and_true] at e8
      subst e8
      have sz:=hst3.ks.lt
      have ez:=kE3.lt
      have xz:=hst3.kc.lt
      have fz:=cell_lt f0
      have gz:=cell_lt g0
      have heq':eb ≠ q:=fun e=>row_blk_ne hst3.rs kE3 (by decide) (by simp [Value.ownBlock,e])
      have htq:tb ≠ q:=fun e=>row_blk_ne hst3.rs kT (by decide) (by simp [Value.ownBlock,e])
      have hoq:ob ≠ q:=by omega
      have hcq:¬ w.heap.size+2=q:=hq1
      have hsq:¬ bs=q:=hq2
      have heq2:¬ eb=q:=heq'
      have hoq2:¬ ob=q:=hoq
      refine region_acts (C:=Exc ((fun j=>j=q)) _) 6 [0,1,2,3,4,5,6,7,8,9] (by kernel_rfl) (by kernel_rfl) (Exc.grows _ _) (Exc.refl _ _) ?_
      iterate 9 (apply x_sT rfl rfl rfl;(focus intro u hc' hf';(try simp only [World.size_drew] at hc' hf');go_simp <;> rfl);intro K hK;go_simp;apply hK;clear hK K)
      refine x_do rfl rfl rfl (Exc.grows _ _) (Exc.refl _ _) (fun K hK=>?_)
      intro w8 hw8 hb8
      have hBW:Below WW.heap.size WW w8:=(Below.refl WW.heap.size WW).drew.trans (hb8.mono (by simp))
      have hst8:=hst3.keep hBW
      have hev8:=hev3.keep hBW
      have kE8:=kE3.keep hBW
      have kT8:=kT.keep hBW
      clear s0 e3 x1 f0 g0 gf
      obtain ⟨q',old8,e8,-,g8,gf8,-,hst9⟩:=hst8.putS hmn ((srcE g k).2.length:Int)
      simp only [Option.some.injEq,Addr.mk.injEq,and_true] at e8
      subst e8
      refine ⟨w8.setCell ⟨q,m,none⟩ (.int .i64 ((srcE g k).2.length:Int)),?_,⟨exc_set hw8 (.inr rfl) _,by simp,fun j hj _ _=>by
       have hj2:¬ (j=q):=by intro hh;simp only [World.size_drew] at hj;omega
       rw [Below.heap_setCell _ _ _ _ (fun h=>hj2 (by simpa using h))]⟩,?_⟩
      ·go_simp
      go_simp
      refine hK _ _ _ ?_
      clear hK K
      refine x_nil ?_
      have hev9:EvR w (w8.setCell ⟨q,m,none⟩ (.int .i64 ((srcE g k).2.length:Int))) w.heap.size (.slice ra xs.length rc) xs:=⟨owns_other hev8.row ⟨q,m,none⟩ _ (fun e=>owns_ne hev8.row hst8.rs (by decide) q e (by simp [Value.ownBlock])),hev8.els⟩
      have kE9:=kE8.other ⟨q,m,none⟩ (.int .i64 ((srcE g k).2.length:Int)) heq'
      have kT9:=kT8.other ⟨q,m,none⟩ (.int .i64 ((srcE g k).2.length:Int)) htq
      generalize (w8.setCell ⟨q,m,none⟩ (.int .i64 ((srcE g k).2.length:Int)))=W9 at *
      have x1:=hst9.kc.cell.1 1
      have xz:=hst9.kc.lt
      obtain ⟨t0,tf,tz⟩:=kT9.cell
      have t1:=t0 1
      have t2:=t0 2
      have t3:=t0 3
      have t0:=t0 0
      simp only [List.getElem?_toArray,List.getElem?_cons_zero,List.getElem?_cons_succ] at x1 t0 t1 t2 t3
      have hA4:=alloc_below W9 (.cells #[.int .i64 kd,.int .i64 gga,.int .i64 ggb,.int .i64 ggv] 203)
      have h1:=gat_one W9 ⟨kd,gga,ggb,ggv⟩
      have hst10:=hst9.keep hA4
      have hev10:=hev9.keep hA4
      have kE10:=kE9.keep hA4
      have hrow10:=hst10.rg
      have hble:=hst10.bel.size
      have HS10:=Lib.hid hst10
      have HE10:=Lib.hid (And.intro hev10 kE10)
      have HNE:=Lib.hid (And.intro (row_blk_ne hst10.rg kE10 (by decide)) hq4)
      have HLN:=Lib.hid (show ((srcE g k).2 ++ [(⟨kd,gga,ggb,ggv⟩:GtI)]).length=(srcE g k).2.length+1 by simp)
      have heb:¬ eb=w.heap.size+2:=fun e=>by
       have h1:=kE9
       rw [e] at h1
       have:=h1.symm.trans hst9.kc
       simp at this
      clear hst10 hev10 kE10 hst9 hev9 kE9 kT9 hst8 hev8 kE8 kT8 hst3 hev3 kE3 kT hBW hb8 hw8 g8 gf8 hA4 sz ez fz gz hq4
      go_wp2_with (first|(at_builtin;refine gts_append h1 rfl (.tmp 70) (.tmp 72) rfl w.heap.size _ (srcE g k).2 rfl rfl hrow10 hble (by simp only [List.length_singleton];omega) ?_;intro v5 w5 q1 q2 q3;obtain ⟨va,vc,rfl⟩:=q1.slice;rw [HLN.out] at q1;obtain ⟨kc5,ks5,rs5,hst5⟩:=HS10.out.app q2 q1;have f5:=kc5.cell.2.1 1;have y5:=kc5.cell.1 1;have z5:=kc5.lt;have kE5:=HE10.out.2.grown q2 HNE.out.1;have e0:=kE5.cell.1 0;have e1:=kE5.cell.1 1;have e2:=kE5.cell.1 2;have e3:=kE5.cell.1 3;have ez:=kE5.lt;simp only [List.getElem?_toArray,List.getElem?_cons_zero,List.getElem?_cons_succ] at y5 e0 e1 e2 e3;have hev5:=owns_grown HE10.out.1.row q2 (fun k hk e=>owns_ne hrow10 HE10.out.1.row (by decide) k e hk);have hev6:=owns_other hev5 ⟨w.heap.size+2,1,none⟩ (.slice va ((srcE g k).2.length+1) vc) (row_blk_ne hev5 kc5 (by decide));have hA6:=alloc_below (w5.setCell ⟨w.heap.size+2,1,none⟩ (.slice va ((srcE g k).2.length+1) vc)) (.cells #[.int .i64 e.kind,.int .i64 e.value,.slice ia e.ins.length ic,.slice (some ⟨ob,oo,none⟩) e.outs.length oc] 189);have hev7:EvR w ((w5.setCell ⟨w.heap.size+2,1,none⟩ (.slice va ((srcE g k).2.length+1) vc)).alloc (.cells #[.int .i64 e.kind,.int .i64 e.value,.slice ia e.ins.length ic,.slice (some ⟨ob,oo,none⟩) e.outs.length oc] 189)) w.heap.size (.slice ra xs.length rc) xs:=⟨owns_keep hA6 hev6,HE10.out.1.els⟩;have hsrc:=ev_one (w5.setCell ⟨w.heap.size+2,1,none⟩ (.slice va ((srcE g k).2.length+1) vc)) (e,.slice ia e.ins.length ic,.slice (some ⟨ob,oo,none⟩) e.outs.length oc) (by rintro u (rfl|rfl) <;> rfl);rw [setCell_size] at hsrc;have hle7:w.heap.size≤((w5.setCell ⟨w.heap.size+2,1,none⟩ (.slice va ((srcE g k).2.length+1) vc)).alloc (.cells #[.int .i64 e.kind,.int .i64 e.value,.slice ia e.ins.length ic,.slice (some ⟨ob,oo,none⟩) e.outs.length oc] 189)).heap.size:=(by have:=hst5.bel.size;have:=hA6.size;omega))|(at_builtin;go_loud (refine ev_append hsrc hok0 rfl (.tmp 75) (.tmp 77) rfl w.heap.size _ xs rfl rfl hev7 hle7 (by omega) ?_);intro v7 w7 r1 r2 r3))
      have hst7:=(hst5.keep hA6).grownE r2 hev7.row (Nat.le_refl _) (by decide) (by decide) (by decide) (by decide) (by decide)
      go_roundw
      case rel=>exact ⟨k+1,by omega,by go_num,_,_,by rw [HSE.out.1];exact hst7,r1,by rw [List.map_append,hxs0.out,HSE.out.2];rfl⟩
      case measure=>simp [intOf];omega
    ·obtain rfl:k=g.edges.length:=by omega
     rw [List.take_length] at hxs
     have hgz:=gsK_zero g
     have hsl:(srcE g g.edges.length).1=srcL g:=rfl
     rw [← hgz,hsl] at hst
     have hend:=ends_any g (.slice a g.edges.length cap) (.slice pa g.ins.length pc) (.slice qa g.outs.length qc) wr (HEK.out wr hst.bel) h.good (cg_nodup h) (by omega) (by omega) (fun e he=>by have:=HOK.out e he;omega)
     rw [HN.out.2] at hend
     have HEND:=Lib.hid hend
     obtain ⟨x0,xf,xz⟩:=hst.kg.cell
     have x1:=x0 1
     have x2:=x0 2
     have x3:=x0 3
     have x0:=x0 0
     simp only [List.getElem?_toArray,List.getElem?_cons_zero,List.getElem?_cons_succ] at x0 x1 x2 x3
     have hml:xs.length=(gtE g.edges).length:=by rw [← hxs,List.length_map]
     have hml2:(gtE g.edges).length≤60:=Nat.le_trans (List.length_filter_le _ _) hlE
     clear hend hgz hsl
     go_wp2_with fail
     refine HEND.out.mono ?_
     rintro e w2 ⟨va,vb,bl,rfl,hva0,hbl,⟨vba,vbc,rfl⟩,hb2⟩
     have hva:=hva0.mono (Nat.zero_le _)
     clear hva0
     obtain ⟨vaa,vac,rfl⟩:=hva.slice
     rw [hbl.len,HN.out.1] at *
     have hA3:=alloc_below w2 (.cells #[.slice vaa n vac,.slice vba n vbc] 275)
     have hb3:=hb2.trans (hA3.mono hb2.size)
     have kN:=Bk.new w2 275 #[.slice vaa n vac,.slice vba n vbc]
     have hst3:=hst.keep hb3
     have hev3:=hev.keep hb3
     have hva3:=hva.keep hA3
     have HBL:=Lib.hid hbl
     clear hst hev hva hb3 hA3 hb2 hbl x0 x1 x2 x3 xf xz HEND
     go_wp2_with fail
     generalize (w2.alloc (.cells #[.slice vaa n vac,.slice vba n vbc] 275))=u3 at *
     generalize w2.heap.size=be at *
     obtain ⟨ga,gc,rfl⟩:=hst3.rg.slice
     rw [gsK_len g (Nat.zero_le _)] at hst3
     obtain ⟨M,hM⟩:∃ M,(gtE g.edges).length=M:=⟨_,rfl⟩
     rw [hml,hM] at hev3
     rw [hM] at hml2 hst3
     have HM:=Lib.hid (And.intro hM (And.intro hxs hml))
     clear hxs hml
     have hLn:g.ins.length+M≤80:=by omega
     simp only [hM]
     clear hM
     go_loopw [85] (fun i wr=>∃ k:Nat,k≤M∧i=.int .i64 k∧CtS w #[.int .i64 n,.slice a g.edges.length cap,.slice pa g.ins.length pc,.slice qa g.outs.length qc] bs g.ins.length sa sc n wr (.slice ga (g.ins.length+M) gc) (.slice none 0 0) (gsK g k) (srcL g)∧EvR w wr w.heap.size (.slice ra M rc) xs∧Bk wr be 275 #[.slice vaa n vac,.slice vba n vbc]∧Rw wr 0 (.slice vaa n vac) bl) (fun i _=>M - (intOf i).toNat)
     case atStart=>exact ⟨0,Nat.zero_le _,rfl,hst3,hev3,kN,hva3⟩
     case round =>
      clear hst3 hev3 kN hva3
      obtain ⟨k,hk,rfl,hst,hev,kN,hva⟩:=hrel
      by_cases hlk:k<M
      ·have hkE:k<(gtE g.edges).length:=by rw [HM.out.1];exact hlk
       have hed0:=hev.read
       rw [HM.out.2.1] at hed0
       obtain ⟨_,_,er,_,hedat⟩:=hed0
       simp only [Value.slice.injEq] at er
       obtain ⟨rfl,-,rfl⟩:=er
       obtain ⟨rb,ro,rfl,_,hed⟩:=hedat k hkE
       obtain ⟨hme,hig⟩:=List.mem_filter.1 (List.getElem_mem hkE)
       have hek2:=ed_len2 (cg_edB h.good _ hme)
       have hri:=fun u (hu:u ∈ ((gtE g.edges)[k]).ins)=>cg_ein h.good hme hu
       have hat0:=gsK_at g hkE
       have hsucc:=gsK_succ g hkE
       have hbab:=bare_ab hig
       obtain ⟨e,hee⟩:∃ e,(gtE g.edges)[k]=e:=⟨_,rfl⟩
       rw [hee] at hed hek2 hri hat0 hsucc hbab
       obtain ⟨c0,c1,wi,wo,c2,c3,hei,heo⟩:=hed
       obtain ⟨ia,ic,rfl⟩:=hei.slice
       obtain ⟨oa,oc,rfl⟩:=heo.slice
       have bz:=cell_lt c0
       have hA2:=alloc_below wr (.cells #[.int .i64 e.kind,.int .i64 e.value,.slice ia e.ins.length ic,.slice oa e.outs.length oc] 189)
       have kE:=Bk.new wr 189 #[.int .i64 e.kind,.int .i64 e.value,.slice ia e.ins.length ic,.slice oa e.outs.length oc]
       have hst2:=hst.keep hA2
       have hev2:=hev.keep hA2
       have kN2:=kN.keep hA2
       have hva2:=hva.keep hA2
       have hei2:=hei.keep hst2.bel
       have hHi:g.ins.length+k<(gsK g k).length:=by rw [gsK_len g (by rw [HM.out.1];exact hk),HM.out.1];omega
       obtain ⟨bg,hbg⟩:∃ bg,bareG e=bg:=⟨_,rfl⟩
       have hfull:fullG (srcV g) e={ bg with a:=if 0<e.ins.length then srcV g (e.ins.getD 0 0) else 0,b:=if 1<e.ins.length then srcV g (e.ins.getD 1 0) else 0 }:=by unfold fullG;rw [hbg]
       rw [hbg] at hat0 hbab
       rw [hfull] at hsucc
       obtain ⟨kd,gga,ggb,ggv⟩:=bg
       simp only at hbab hsucc
       obtain ⟨rfl,rfl⟩:=hbab
       have hat1:(gsK g k)[g.ins.length+k]'hHi=⟨kd,0,0,ggv⟩:=(List.getElem?_eq_some_iff.1 hat0).2
       have HAT1:=Lib.hid hat1
       clear hst hev kN hva heo hA2 hee hme hig hedat hat0 hfull hbg hkE hat1
       obtain ⟨GB,gc',e0,hGB,hGBw⟩:=hst2.rg.block (by omega)
       simp only [Value.slice.injEq] at e0
       obtain ⟨rfl,-,rfl⟩:=e0
       have x1:=hst2.kc.cell.1 1
       have xz:=hst2.kc.lt
       have y2:=hst2.kg.cell.1 2
       have yz:=hst2.kg.lt
       simp only [List.getElem?_toArray,List.getElem?_cons_zero,List.getElem?_cons_succ] at x1 y2
       have hlen0:e.ins.length=0∨e.ins.length=1∨e.ins.length=2:=by omega
       rcases hlen0 with hl0|hl0|hl0
       ·have n0:¬ (0:Int)<(e.ins.length:Int):=by omega
        have n1:¬ (1:Int)<(e.ins.length:Int):=by omega
        rw [if_neg (by omega),if_neg (by omega)] at hsucc
        have hsame:gsK g (k+1)=gsK g k:=by
         rw [hsucc,← HAT1.out]
         exact List.set_getElem_self _
        have HSC:=Lib.hid hsame
        have HS:=Lib.hid (And.intro hst2 (And.intro hev2 (And.intro kN2 hva2)))
        clear hl0 hri hsucc hei2 hsame hst2 hev2 kN2 hva2
        go_wp2
        go_roundw
        case rel=>exact ⟨k+1,by omega,by go_num,by rw [HSC.out];exact HS.out.1,HS.out.2.1,HS.out.2.2.1,HS.out.2.2.2⟩
        case measure=>simp [intOf];omega
       ·have n0:(0:Int)<(e.ins.length:Int):=by omega
        have n0':0<e.ins.length:=by omega
        have n1:¬ (1:Int)<(e.ins.length:Int):=by omega
        rw [if_pos n0',if_neg (by omega)] at hsucc
        obtain ⟨ib,io,rfl,f0⟩:=ints_cell hei2 (i:=0) (by omega)
        simp only [Nat.add_zero] at f0
        have hzr:=hri _ (List.getElem_mem (show 0<e.ins.length by omega))
        have hz0:e.ins[0]'(by omega)=e.ins.getD 0 0:=(getD0 (by omega)).symm
        rw [hz0] at f0 hzr
        have fz:=cell_lt f0
        generalize hZ:e.ins.getD 0 0=z0 at *
        have HSC:=Lib.hid hsucc
        have HRI:=Lib.hid hei2
        clear hl0 hz0 hri hsucc hei2
        have hfr:=cfrom_any g h bs be w.heap.size (.slice sa n sc) (.slice vaa n vac) (.slice vba n vbc) (.slice a g.edges.length cap) (.slice pa g.ins.length pc) (.slice qa g.outs.length qc) bl z0 _ hzr.1 (by have:=HN.out;omega) hst2.ks hst2.rs.at kN2 hva2.at HBL.out (by rw [HN.out.2];exact hst2.kg) (HEK.out _ hst2.bel) (by omega) (by omega)
        generalize hV:srcV g z0=V at *
        have HFR:=Lib.hid hfr
        clear hfr
        go_wp2_with fail
        generalize (wr.alloc (.cells #[.int .i64 e.kind,.int .i64 e.value,.slice (some ⟨ib,io,none⟩) e.ins.length ic,.slice oa e.outs.length oc] 189))=W1 at *
        generalize wr.heap.size=eb at *
        refine HFR.out.mono ?_
        rintro e' w4 ⟨rfl,hb4⟩
        have hst4:=hst2.keep hb4
        have hev4:=hev2.keep hb4
        have kN4:=kN2.keep hb4
        have hva4:=hva2.keep hb4
        have kE4:=kE.keep hb4
        obtain ⟨q,cq,eq,hqw,d0,df,hne,hst5⟩:=hst4.putG hHi (j:=1) (by omega) ⟨kd,V,0,ggv⟩ (.int .i64 V) (.int .i64 0) (by rw [HAT1.out];rfl) (by rw [HAT1.out];rfl)
        simp only [Value.slice.injEq,Option.some.injEq,Addr.mk.injEq,and_true] at eq
        obtain ⟨rfl,-,-⟩:=eq
        have heb:=hne kE4 (by decide)
        have kN5:=kN4.other ⟨GB,(g.ins.length+k) * 4+1,none⟩ (.int .i64 V) (hne kN4 (by decide))
        have hev5:EvR w (w4.setCell ⟨GB,(g.ins.length+k) * 4+1,none⟩ (.int .i64 V)) w.heap.size (.slice (some ⟨rb,ro,none⟩) M rc) xs:=⟨owns_other hev4.row _ _ (fun e=>owns_ne hev4.row hst4.rg (by decide) GB e (by simp [Value.ownBlock])),hev4.els⟩
        have hva5:Rw (w4.setCell ⟨GB,(g.ins.length+k) * 4+1,none⟩ (.int .i64 V)) 0 (.slice vaa n vac) bl:=owns_other hva4 _ _ (fun e=>owns_ne hva4 hst4.rg (by decide) GB e (by simp [Value.ownBlock]))
        have dz:=cell_lt d0
        have e2:=kE4.cell.1 2
        have ez:=kE4.lt
        simp only [List.getElem?_toArray,List.getElem?_cons_zero,List.getElem?_cons_succ] at e2
        have HS:=Lib.hid (And.intro hst5 (And.intro hev5 (And.intro kN5 hva5)))
        clear hst2 hev2 kN2 hva2 kE hst4 hev4 kN4 hva4 kE4 hst5 hev5 kN5 hva5 hne hb4 x1 xz y2 yz f0 fz
        go_wp2
        go_roundw
        case rel=>exact ⟨k+1,by omega,by go_num,by rw [HSC.out];exact HS.out.1,HS.out.2.1,HS.out.2.2.1,HS.out.2.2.2⟩
        case measure=>simp [intOf];omega
       ·have n0:(0:Int)<(e.ins.length:Int):=by omega
        have n0':0<e.ins.length:=by omega
        have n1:(1:Int)<(e.ins.length:Int):=by omega
        have n1':1<e.ins.length:=by omega
        rw [if_pos n0',if_pos n1'] at hsucc
        obtain ⟨ib,io,rfl,f0⟩:=ints_cell hei (i:=0) (by omega)
        obtain ⟨ib2,io2,eib,f1⟩:=ints_cell hei (i:=1) (by omega)
        simp only [Option.some.injEq,Addr.mk.injEq,and_true] at eib
        obtain ⟨rfl,rfl⟩:=eib
        have hibw:=cell_lt f0
        replace f0:=cell_keep hst2.bel f0
        replace f1:=cell_keep hst2.bel f1
        simp only [Nat.add_zero] at f0
        have hzr:=hri _ (List.getElem_mem (show 0<e.ins.length by omega))
        have hz0:e.ins[0]'(by omega)=e.ins.getD 0 0:=(getD0 (by omega)).symm
        have hzr1:=hri _ (List.getElem_mem (show 1<e.ins.length by omega))
        have hz1:e.ins[1]'(by omega)=e.ins.getD 1 0:=(getD1 (by omega)).symm
        rw [hz0] at f0 hzr
        rw [hz1] at f1 hzr1
        have fz:=cell_lt f0
        generalize hZ:e.ins.getD 0 0=z0 at *
        generalize hZ1:e.ins.getD 1 0=z1 at *
        have HSC:=Lib.hid hsucc
        clear hl0 hz0 hz1 hri hsucc hei2 hei
        have hfr:=cfrom_any g h bs be w.heap.size (.slice sa n sc) (.slice vaa n vac) (.slice vba n vbc) (.slice a g.edges.length cap) (.slice pa g.ins.length pc) (.slice qa g.outs.length qc) bl z0 _ hzr.1 (by have:=HN.out;omega) hst2.ks hst2.rs.at kN2 hva2.at HBL.out (by rw [HN.out.2];exact hst2.kg) (HEK.out _ hst2.bel) (by omega) (by omega)
        generalize hV:srcV g z0=V at *
        have HFR:=Lib.hid hfr
        have HV:=Lib.hid hV
        have F1:=Lib.hid f1
        clear hfr hV f1
        go_wp2_with fail
        generalize (wr.alloc (.cells #[.int .i64 e.kind,.int .i64 e.value,.slice (some ⟨ib,io,none⟩) e.ins.length ic,.slice oa e.outs.length oc] 189))=W1 at *
        generalize wr.heap.size=eb at *
        refine HFR.out.mono ?_
        rintro e' w4 ⟨rfl,hb4⟩
        have hst4:=hst2.keep hb4
        have hev4:=hev2.keep hb4
        have kN4:=kN2.keep hb4
        have hva4:=hva2.keep hb4
        have kE4:=kE.keep hb4
        have f1:=cell_keep hb4 F1.out
        have fz1:=cell_lt f1
        obtain ⟨q,cq,eq,hqw,d0,df,hne,hst5⟩:=hst4.putG hHi (j:=1) (by omega) ⟨kd,V,0,ggv⟩ (.int .i64 V) (.int .i64 0) (by rw [HAT1.out];rfl) (by rw [HAT1.out];rfl)
        simp only [Value.slice.injEq,Option.some.injEq,Addr.mk.injEq,and_true] at eq
        obtain ⟨rfl,-,-⟩:=eq
        have heb:=hne kE4 (by decide)
        have hib:¬ ib=GB:=by omega
        have kN5:=kN4.other ⟨GB,(g.ins.length+k) * 4+1,none⟩ (.int .i64 V) (hne kN4 (by decide))
        have hev5:EvR w (w4.setCell ⟨GB,(g.ins.length+k) * 4+1,none⟩ (.int .i64 V)) w.heap.size (.slice (some ⟨rb,ro,none⟩) M rc) xs:=⟨owns_other hev4.row _ _ (fun e=>owns_ne hev4.row hst4.rg (by decide) GB e (by simp [Value.ownBlock])),hev4.els⟩
        have hva5:Rw (w4.setCell ⟨GB,(g.ins.length+k) * 4+1,none⟩ (.int .i64 V)) 0 (.slice vaa n vac) bl:=owns_other hva4 _ _ (fun e=>owns_ne hva4 hst4.rg (by decide) GB e (by simp [Value.ownBlock]))
        have dz:=cell_lt d0
        have e2:=kE4.cell.1 2
        have ez:=kE4.lt
        simp only [List.getElem?_toArray,List.getElem?_cons_zero,List.getElem?_cons_succ] at e2
        clear hst2 hev2 kN2 hva2 kE hst4 hev4 kN4 hva4 kE4 hne hb4 x1 xz y2 yz f0 fz
        go_wp2_with fail
        generalize (w4.setCell ⟨GB,(g.ins.length+k) * 4+1,none⟩ (.int .i64 V))=W5 at *
        have hfr:=cfrom_any g h bs be w.heap.size (.slice sa n sc) (.slice vaa n vac) (.slice vba n vbc) (.slice a g.edges.length cap) (.slice pa g.ins.length pc) (.slice qa g.outs.length qc) bl z1 W5 hzr1.1 (by have:=HN.out;omega) hst5.ks hst5.rs.at kN5 hva5.at HBL.out (by rw [HN.out.2];exact hst5.kg) (HEK.out _ hst5.bel) (by omega) (by omega)
        generalize hU:srcV g z1=U at *
        refine hfr.mono ?_
        rintro e' w6 ⟨rfl,hb6⟩
        have hst6:=hst5.keep hb6
        have hev6:=hev5.keep hb6
        have kN6:=kN5.keep hb6
        have hva6:=hva5.keep hb6
        obtain ⟨q,cq,eq,hqw,g0,gf,hne,hst7⟩:=hst6.putG (i:=g.ins.length+k) (by rw [List.length_set];exact hHi) (j:=2) (by omega) ⟨kd,V,U,ggv⟩ (.int .i64 U) (.int .i64 0) (by rw [List.getElem_set_self];rfl) (by rw [List.getElem_set_self];rfl)
        simp only [Value.slice.injEq,Option.some.injEq,Addr.mk.injEq,and_true] at eq
        obtain ⟨rfl,-,-⟩:=eq
        rw [List.set_set] at hst7
        have kN7:=kN6.other ⟨GB,(g.ins.length+k) * 4+2,none⟩ (.int .i64 U) (hne kN6 (by decide))
        have hev7:EvR w (w6.setCell ⟨GB,(g.ins.length+k) * 4+2,none⟩ (.int .i64 U)) w.heap.size (.slice (some ⟨rb,ro,none⟩) M rc) xs:=⟨owns_other hev6.row _ _ (fun e=>owns_ne hev6.row hst6.rg (by decide) GB e (by simp [Value.ownBlock])),hev6.els⟩
        have hva7:Rw (w6.setCell ⟨GB,(g.ins.length+k) * 4+2,none⟩ (.int .i64 U)) 0 (.slice vaa n vac) bl:=owns_other hva6 _ _ (fun e=>owns_ne hva6 hst6.rg (by decide) GB e (by simp [Value.ownBlock]))
        have gz:=cell_lt g0
        have HS:=Lib.hid (And.intro hst7 (And.intro hev7 (And.intro kN7 hva7)))
        have HU:=Lib.hid hU
        clear hfr hst5 hev5 kN5 hva5 hst6 hev6 kN6 hva6 hst7 hev7 kN7 hva7 hne hb6 e2 f1 fz1 d0 df dz ez hU
        go_wp2
        go_roundw
        case rel=>exact ⟨k+1,by omega,by go_num,by rw [HSC.out];exact HS.out.1,HS.out.2.1,HS.out.2.2.1,HS.out.2.2.2⟩
        case measure=>simp [intOf];omega
      ·obtain rfl:M=k:=by omega
       have hgz:gsK g M=crGs g:=by rw [← HM.out.1];exact gsK_all g
       rw [hgz] at hst
       have x3:=hst.kg.cell.1 3
       have xz:=hst.kg.lt
       simp only [List.getElem?_toArray,List.getElem?_cons_zero,List.getElem?_cons_succ] at x3
       clear hev hgz
       generalize hww:wr=wo at *
       clear hww
       go_wp2_with fail
       clear x3 xz
       go_loopw [128] (fun i wr=>∃ k:Nat,k≤g.outs.length∧i=.int .i64 k∧∃ vov,CtS w #[.int .i64 n,.slice a g.edges.length cap,.slice pa g.ins.length pc,.slice qa g.outs.length qc] bs g.ins.length sa sc n wr (.slice ga (g.ins.length+M) gc) vov (crGs g) (srcL g)∧Rw wr w.heap.size vov ((g.outs.take k).map (srcV g))∧Bk wr be 275 #[.slice vaa n vac,.slice vba n vbc]∧Rw wr 0 (.slice vaa n vac) bl ∧
        ∀ j,vov.ownBlock=some j → (Value.slice sa n sc).ownBlock ≠ some j∧(Value.slice vaa n vac).ownBlock ≠ some j) (fun i _=>g.outs.length - (intOf i).toNat)
       case atStart=>exact ⟨0,Nat.zero_le _,rfl,_,hst,World.ownsRow_nil _ _ _ _,kN,hva,fun j hj=>by simp [Value.ownBlock] at hj⟩
       case round =>
        clear hst kN hva
        obtain ⟨k,hk,rfl,vov,hst,hrow,kN,hva,hap⟩:=hrel
        by_cases hlk:k<g.outs.length
        ·obtain ⟨qb,qo,rfl,d0⟩:=ints_cell (HO.out.keep hst.bel) hlk
         have hzr:=HOUTS.out k hlk
         have htk:(g.outs.take (k+1)).map (srcV g)=(g.outs.take k).map (srcV g) ++ [srcV g g.outs[k]]:=by rw [List.take_succ_eq_append_getElem hlk,List.map_append];rfl
         have hol:((g.outs.take k).map (srcV g)).length=k:=by rw [List.length_map,List.length_take];omega
         generalize hZ:g.outs[k]=z0 at *
         have hfr:=fun (U:World) (hb:Below wr.heap.size wr U)=>cfrom_any g h bs be w.heap.size (.slice sa n sc) (.slice vaa n vac) (.slice vba n vbc) (.slice a g.edges.length cap) (.slice pa g.ins.length pc) (.slice (some ⟨qb,qo,none⟩) g.outs.length qc) bl z0 U hzr.1 (by have:=HN.out;omega) (hst.keep hb).ks (hst.keep hb).rs.at (kN.keep hb) (hva.keep hb).at HBL.out (by rw [HN.out.2];exact (hst.keep hb).kg) (HEK.out _ (hst.keep hb).bel) (by omega) (by omega)
         generalize hV:srcV g z0=V at *
         have HFR:=Lib.hid hfr
         have HTK:=Lib.hid htk
         obtain ⟨oa,oc,hvo⟩:=hrow.slice
         rw [hol] at hvo
         subst hvo
         have x2:=hst.kc.cell.1 2
         have xz:=hst.kc.lt
         simp only [List.getElem?_toArray,List.getElem?_cons_zero,List.getElem?_cons_succ] at x2
         have dz:=cell_lt d0
         have HAP:=Lib.hid hap
         have HOL:=Lib.hid hol
         clear hfr htk hV hZ hap hol hzr
         go_wp2_with fail
         have up1:∀ {w':World},Exc NoT wr.drew w' → Below wr.heap.size wr w':=fun h=>(Below.refl wr.heap.size wr).drew.trans (h.toBelow.mono (by simp))
         refine region_acts2 (C:=Exc (NoT) _) 9 [0,1,2,3,4,5] [6,7,8] (by kernel_rfl) (by kernel_rfl) (Exc.grows _ _) (Exc.refl _ _) ?_
         iterate 4 (apply x_st rfl rfl rfl;(focus intro u hc' hf';go_simp <;> rfl);intro K hK;go_simp;apply hK;clear hK K)
         refine x_call rfl rfl rfl (Exc.grows _ _) (Exc.refl _ _) 215 (fun K hK=>?_);apply Exists.intro;refine ⟨fun w' hw'=>?_,fun wa hwa hbwa=>?_⟩;(focus go_simp;rfl);refine (HFR.out _ (up1 hwa)).mono ?_;rintro e w3 ⟨rfl,hb3⟩;refine ⟨_,rfl,hb3,fun hx=>?_⟩;go_simp;apply hK;clear hK K
         refine x_make rfl rfl rfl (Exc.grows _ _) (hx) (fun b=>.slice (some ⟨b,0,none⟩) 1 1) (fun K hK=>?_)
         apply Exists.intro
         refine ⟨fun w' hw'=>?_,fun bb w5 hw5 hb45 hbo hNb hnb=>?_⟩
         ·obtain ⟨hc',hf'⟩:=hw'.cell
          try simp only [World.size_drew] at hc' hf'
          go_simp
          rfl
         go_simp
         refine hK _ _ _ ?_
         clear hK K
         refine x_nil ?_
         have hb15:Below wr.heap.size wr w5:=up1 hw5
         have hst5:=hst.keep hb15
         have hrow5:=hrow.keep hb15
         have kN5:=kN.keep hb15
         have hva5:=hva.keep hb15
         have hle5:=hst5.bel.size
         have hN5:w.heap.size≤bb:=by have:=hst.bel.size;simp only [World.size_drew] at hNb;omega
         refine ⟨Exc (fun j=>j=w.heap.size+2∨(Value.slice oa k oc).ownBlock=some j) w5,w5.heap.size,Exc.grows _ _,Exc.refl _ _,?_⟩
         refine x_intapp rfl rfl rfl (Exc.refl _ _) (.tmp 133) (.tmp 137) rfl w.heap.size (.slice oa k oc) ((g.outs.take k).map (srcV g)) [V] bb 1 1 rfl rfl rfl (fun j hj=>.inl ⟨(World.ownsRow.lt hrow5 j hj).2,.inr hj⟩) hle5 (by rw [HOL.out];omega) hrow5 (by simpa [iCell] using hbo) ?_
         intro K hK w6 w7 v7 hw6 hb56 hed hgr hw7 hv7
         obtain ⟨a7,c7,rfl⟩:=hed.slice
         rw [show ((g.outs.take k).map (srcV g) ++ [V]).length=k+1 by rw [List.length_append,HOL.out];rfl] at *
         go_simp
         refine hK _ _ _ ?_
         clear hK K
         iterate 1 (apply x_sT rfl rfl rfl;(focus intro u hc' hf';(try simp only [World.size_drew] at hc' hf');go_simp <;> rfl);intro K hK;go_simp;apply hK;clear hK K)
         refine x_do rfl rfl rfl (Exc.grows _ _) hw7 (fun K hK=>?_)
         intro w8 hw8 hb78
         have hst7:=(hst5.keep hb56).grownI hgr (hrow5.keep hb56) (Nat.le_refl _) (fun j hj=>(HAP.out j hj).1)
         have kN7:=(kN5.keep hb56).grown hgr (row_blk_ne (hrow5.keep hb56) (kN5.keep hb56) (by decide))
         have hva7:Rw w7 0 (.slice vaa n vac) bl:=(hva5.keep hb56).grown hgr (fun j hj e=>(HAP.out j e).2 hj)
         have hst8:=hst7.keep hb78
         have kN8:=kN7.keep hb78
         have hva8:=hva7.keep hb78
         have hed8:=hed.keep hb78
         obtain ⟨m0,m1,m2⟩:=hst8.kc.cell
         have hbig:w.heap.size+2<w5.heap.size:=hst5.kc.lt
         refine ⟨w8.setCell ⟨w.heap.size+2,2,none⟩ (.slice a7 (k+1) c7),?_,⟨exc_set hw8 (.inr (.inl rfl)) _,by simp,fun j hN _ _=>by rw [Below.heap_setCell _ _ _ _ (fun h=>by simp at h;omega)]⟩,?_⟩
         ·go_simp
         go_simp
         refine hK _ _ _ ?_
         clear hK K
         refine x_nil ?_
         have hst9:=hst8.putO (.slice a7 (k+1) c7)
         have hed9:=hed8.setB hst8.kc (by decide) 2 (.slice a7 (k+1) c7)
         have hva9:=hva8.setB hst8.kc (by decide) 2 (.slice a7 (k+1) c7)
         have hbne:be ≠ w.heap.size+2:=fun e=>by
          have h1:=kN8
          rw [e] at h1
          have:=h1.symm.trans hst8.kc
          simp at this
         have kN9:=kN8.other ⟨w.heap.size+2,2,none⟩ (.slice a7 (k+1) c7) hbne
         have hap9:∀ j,(Value.slice a7 (k+1) c7).ownBlock=some j → (Value.slice sa n sc).ownBlock ≠ some j∧(Value.slice vaa n vac).ownBlock ≠ some j:=fun j hj=>by
          rcases hv7 with h1|h1
          ·exact HAP.out j (h1 ▸ hj)
          ·rw [h1] at hj
           have hjj:=Option.some.inj hj
           have hs6:=hb56.size
           refine ⟨fun e=>?_,fun e=>?_⟩
           ·have:=(World.ownsRow.lt hst5.rs j e).2;omega
           ·have:=(World.ownsRow.lt hva5 j e).2;omega
         have HS:=Lib.hid (And.intro hst9 (And.intro hed9 (And.intro kN9 (And.intro hva9 hap9))))
         generalize (w8.setCell ⟨w.heap.size+2,2,none⟩ (.slice a7 (k+1) c7))=W9 at *
         clear hst5 hrow5 kN5 hva5 hst7 kN7 hva7 hst8 kN8 hva8 hed8 m0 m1 m2 hst9 hed9 hva9 kN9 hap9 hed hgr hv7 hb15 hst hrow kN hva x2 xz d0 dz
         go_wp2
         go_roundw
         case rel=>exact ⟨k+1,by omega,by go_num,_,HS.out.1,by rw [HTK.out];exact HS.out.2.1,HS.out.2.2.1,HS.out.2.2.2.1,HS.out.2.2.2.2⟩
         case measure=>simp [intOf];omega
        ·obtain rfl:k=g.outs.length:=by omega
         rw [List.take_length] at hrow
         have hgl:(crGs g).length=g.ins.length+M:=by rw [← gsK_all,gsK_len g (Nat.le_refl _),HM.out.1]
         have hol:(crOs g).length=g.outs.length:=by simp [crOs]
         obtain ⟨oa,oc,hvo⟩:=hrow.slice
         rw [List.length_map] at hvo
         subst hvo
         obtain ⟨y0,yf,yz⟩:=hst.kc.cell
         have y1:=y0 1
         have y2:=y0 2
         have y0:=y0 0
         obtain ⟨z0,zf,zz⟩:=hst.kz.cell
         have z1:=z0 1
         have z2:=z0 2
         have z0:=z0 0
         simp only [List.getElem?_toArray,List.getElem?_cons_zero,List.getElem?_cons_succ] at y0 y1 y2 z0 z1 z2
         have q1:=((hst.rg.setB hst.kz (by decide) 0 (.int .i64 g.ins.length)).setB (hst.kz.set 0 _) (by decide) 1 (.slice ga (g.ins.length+M) gc)).setB ((hst.kz.set 0 _).set 1 _) (by decide) 2 (.slice oa g.outs.length oc)
         have q2:=((hrow.setB hst.kz (by decide) 0 (.int .i64 g.ins.length)).setB (hst.kz.set 0 _) (by decide) 1 (.slice ga (g.ins.length+M) gc)).setB ((hst.kz.set 0 _).set 1 _) (by decide) 2 (.slice oa g.outs.length oc)
         have q3:=((hst.bel.setCell (show w.heap.size≤(⟨w.heap.size+1,0,none⟩:Addr).block by simp) (.int .i64 g.ins.length)).setCell (show w.heap.size≤(⟨w.heap.size+1,1,none⟩:Addr).block by simp) (.slice ga (g.ins.length+M) gc)).setCell (show w.heap.size≤(⟨w.heap.size+1,2,none⟩:Addr).block by simp) (.slice oa g.outs.length oc)
         have HS:=Lib.hid (And.intro q1 (And.intro q2 q3))
         have HL:=Lib.hid (And.intro hgl hol)
         clear q1 q2 q3 hst hrow kN hva hap hgl hol
         go_wp2
         refine bodyPost_ret (v:=.agg #[.int .i64 g.ins.length,.slice ga (g.ins.length+M) gc,.slice oa g.outs.length oc]) (by simp [results,Tryz.results146,go_sem,z0,z1,z2,zf,zz]) rfl ?_
         exact ⟨ga,gc,oa,oc,by rw [HL.out.1,HL.out.2],by rw [HL.out.1];exact HS.out.1,by rw [HL.out.2];exact HS.out.2.1,HS.out.2.2⟩
end Go.Proofs.YtbljmfcifljkaaaGreatDoor
