/-
  The program of a circuit and of a graph, by the reference. Own work.
-/
import Derived.Test.YtbljmfcifljkaaaGreatDoorXBD
import Derived.Test.YtbljmfcifljkaaaGreatDoorXBE
import Derived.Test.YtbljmfcifljkaaaGreatDoorXBL
set_option linter.all false
set_option maxRecDepth 100000
set_option maxHeartbeats 8000000
namespace Go.Proofs.YtbljmfcifljkaaaGreatDoor
open Go.RowKit
set_option maxRecDepth 100000
set_option maxHeartbeats 2000000
theorem prog_parts {p inp:Int} {gs:List GtI} {os:List Int} (h:circB p inp gs os=true):primeB p=true∧inB (progL inp gs os).inputs 0 8=true∧inB (progL inp gs os).outputs 0 8=true∧inB (progL inp gs os).cells 0 40=true∧(0≤(progL inp gs os).regs∧(progL inp gs os).regs≤1000)∧(progL inp gs os).code.length≤120 ∧
  (progL inp gs os).code.all (insB p (progL inp gs os).inputs (progL inp gs os).outputs (progL inp gs os).cells (progL inp gs os).regs)=true:=by
 have hc:=ciOk_of h
 have hI:=cm_inv hc _ (Nat.le_refl _)
 change CmI p inp gs os _ (cmEnd gs os) at hI
 have hrg:=hI.rg
 rw [List.take_length] at hrg
 have hdl:(dlyL gs).length≤40:=Nat.le_trans (dlyN_len gs gs.length) hc.len.2
 have hll:(listL gs os).length≤gs.length:=nodup_len (list_ok hc).nd (list_ok hc).rg
 have hlen:=hc.len
 have hout:=hc.outs
 have hinp:=hc.inr
 have hcl:=hI.cl
 have hhl:=hI.hl
 unfold progL
 simp only
 have hcode:((cmEnd gs os).code ++ (stoL gs (dlyL gs) (cmEnd gs os).reg (dlyL gs).length ++ outL os (cmEnd gs os).reg os.length)).length≤120:=by
  simp only [List.length_append,stoL,outL,List.length_map,List.length_range]
  omega
 refine ⟨hc.prime,by simp [inB];omega,by simp [inB];omega,by simp [inB];omega,by omega,hcode,?_⟩
 rw [List.all_eq_true]
 intro x hx
 rcases List.mem_append.1 hx with h1|h1
 ·exact hI.ok x h1
 ·rcases List.mem_append.1 h1 with h2|h2
  ·obtain ⟨j,hj,rfl⟩:=List.mem_map.1 h2
   have hj:=List.mem_range.1 hj
   have hm:(dlyL gs).getD j 0 ∈ dlyL gs:=by rw [List.getD_eq_getElem?_getD,List.getElem?_eq_getElem hj];exact List.getElem_mem hj
   have:=hrg _ (list_dly (os:=os) hm)
   simp [insB,inB,-List.getD_eq_getElem?_getD]
   omega
  ·obtain ⟨j,hj,rfl⟩:=List.mem_map.1 h2
   have hj:=List.mem_range.1 hj
   have hm:os.getD j 0 ∈ os:=by rw [List.getD_eq_getElem?_getD,List.getElem?_eq_getElem hj];exact List.getElem_mem hj
   have:=hrg _ (list_out (gs:=gs) hm)
   simp [insB,inB,-List.getD_eq_getElem?_getD]
   omega
def CcP (inp:Int) (gs:List GtI) (os:List Int) (w:World) (e:Ending) (w':World):Prop :=
 ∃ v,e=.returned (.tuple #[v,.bool (decide ((cmEnd gs os).holds.length≤16))])∧Below w.heap.size w w'∧(decide ((cmEnd gs os).holds.length≤16)=false → v=.agg #[.int .i64 0,.int .i64 0,.int .i64 0,.int .i64 0,.slice none 0 0]) ∧
  (decide ((cmEnd gs os).holds.length≤16)=true → ∃ ca cc,v=.agg #[.int .i64 inp,.int .i64 os.length,.int .i64 (dlyL gs).length,.int .i64 (cmEnd gs os).holds.length,.slice ca (progL inp gs os).code.length cc]∧IRw w' w.heap.size (.slice ca (progL inp gs os).code.length cc) (progL inp gs os).code)
theorem cc_any (p inp:Int) (vg vo:Value) (gs:List GtI) (os:List Int) (w:World) (hb:circB p inp gs os=true) (hg:GtsAt w vg gs) (ho:IntsAt w vo os) :
  Calls Tryz.prog 67 #[.int .i64 p,.agg #[.int .i64 inp,vg,vo]] w (CcP inp gs os w):=by
 have hci:=ciOk_of hb
 have hlen:=hci.len
 have hout:=hci.outs
 have hgd:=fun (U:World) (hU:Below w.heap.size w U)=>crGood_any p inp vg vo gs os U (hg.keep hU) (ho.keep hU) (by omega) (by omega)
 have hcc:=fun (U:World) (hU:Below w.heap.size w U)=>cmCompile_any p inp vg vo gs os U hci (hg.keep hU) (ho.keep hU)
 rw [hb] at hgd
 obtain ⟨h0,h1,h2,h3,h4,h5,h6⟩:=prog_parts hb
 have hcg:∀ (ca:Option Addr) (cc:Nat) (U:World),InsAt U (.slice ca (progL inp gs os).code.length cc) (progL inp gs os).code → Calls Tryz.prog 140 #[.int .i64 p,.agg #[.int .i64 inp,.int .i64 os.length,.int .i64 (dlyL gs).length,.int .i64 (cmEnd gs os).holds.length,.slice ca (progL inp gs os).code.length cc]] U (FlP (inB ((cmEnd gs os).holds.length:Int) 0 16) U) :=
  fun ca cc U hI=>cmGood_any p ca cc (progL inp gs os) U hI h0 h1 h2 h3 h4 h5 h6
 have hin:inB ((cmEnd gs os).holds.length:Int) 0 16=decide ((cmEnd gs os).holds.length≤16):=by
  rw [Bool.eq_iff_iff]
  simp only [inB,Bool.and_eq_true,decide_eq_true_eq]
  omega
 rw [hin] at hcg
 obtain ⟨a,cap,rfl,hcap⟩:=hg.slice
 obtain ⟨oa,oc,rfl⟩:=ho.slice
 have hA:=alloc_below w (.cells #[.int .i64 inp,.slice a gs.length cap,.slice oa os.length oc] 112)
 have hA2:=alloc_below (w.alloc (.cells #[.int .i64 inp,.slice a gs.length cap,.slice oa os.length oc] 112)) (.cells #[.int .i64 0,.int .i64 0,.int .i64 0,.int .i64 0,.slice none 0 0] 68)
 have kC:=(Bk.new w 112 #[.int .i64 inp,.slice a gs.length cap,.slice oa os.length oc]).keep hA2
 have kZ:=Bk.new (w.alloc (.cells #[.int .i64 inp,.slice a gs.length cap,.slice oa os.length oc] 112)) 68 #[.int .i64 0,.int .i64 0,.int .i64 0,.int .i64 0,.slice none 0 0]
 rw [World.size_alloc] at kZ
 have hB:=hA.trans (hA2.mono hA.size)
 have HG:=Lib.hid hgd
 have HC:=Lib.hid hcc
 have HM:=Lib.hid hcg
 clear hA hA2 hgd hcc hcg h0 h1 h2 h3 h4 h5 h6 hg ho hin hb hci
 go_enter Tryz.func67,Tryz.ntmps67
 go_wp2_with fail
 generalize ((w.alloc (.cells #[.int .i64 inp,.slice a gs.length cap,.slice oa os.length oc] 112)).alloc (.cells #[.int .i64 0,.int .i64 0,.int .i64 0,.int .i64 0,.slice none 0 0] 68))=u0 at *
 refine (HG.out _ hB).mono ?_
 rintro e w1 ⟨rfl,hb1⟩
 replace kC:=kC.keep hb1
 replace kZ:=kZ.keep hb1
 replace hB:=hB.trans (hb1.mono hB.size)
 obtain ⟨x0,xf,xz⟩:=kC.cell
 have x1:=x0 1
 have x2:=x0 2
 have x0:=x0 0
 simp only [List.getElem?_toArray,List.getElem?_cons_zero,List.getElem?_cons_succ] at x0 x1 x2
 go_wp2_with fail
 refine (HC.out w1 hB).mono ?_
 rintro e w2 ⟨vc,rfl,hrow,hb2⟩
 clear x0 x1 x2 xf xz
 replace kZ:=kZ.keep hb2
 have hwz:=hB.size
 have hkz:=kZ.lt
 replace hB:=hB.trans (hb2.mono hB.size)
 obtain ⟨ca,cc,rfl⟩:=hrow.slice
 have hA3:=alloc_below w2 (.cells #[.int .i64 inp,.int .i64 os.length,.int .i64 (dlyL gs).length,.int .i64 (cmEnd gs os).holds.length,.slice ca (progL inp gs os).code.length cc] 68)
 have kX:=Bk.new w2 68 #[.int .i64 inp,.int .i64 os.length,.int .i64 (dlyL gs).length,.int .i64 (cmEnd gs os).holds.length,.slice ca (progL inp gs os).code.length cc]
 replace kZ:=kZ.keep hA3
 replace hrow:=(IRw.mono hrow hwz).keep hA3
 have hB0:=hB.size
 replace hB:=hB.trans (hA3.mono hB.size)
 have hgo:=HM.out ca cc _ hrow.at
 have HR:=Lib.hid hrow
 have HGO:=Lib.hid hgo
 clear hrow hgo hA3 hb1 hb2
 go_wp2_with fail
 generalize hSZ:w2.heap.size=sz at *
 generalize (w2.alloc (.cells #[.int .i64 inp,.int .i64 os.length,.int .i64 (dlyL gs).length,.int .i64 (cmEnd gs os).holds.length,.slice ca (progL inp gs os).code.length cc] 68))=w3 at *
 refine HGO.out.mono ?_
 rintro e w4 ⟨rfl,hb4⟩
 replace kZ:=kZ.keep hb4
 replace kX:=kX.keep hb4
 replace hB:=hB.trans (hb4.mono hB.size)
 replace HR:=Lib.hid (HR.out.keep hb4)
 clear hb4 HGO HM HC HG
 obtain ⟨y0,yf,yz⟩:=kX.cell
 have y1:=y0 1
 have y2:=y0 2
 have y3:=y0 3
 have y4:=y0 4
 have y0:=y0 0
 obtain ⟨z0,zf,zz⟩:=kZ.cell
 have z1:=z0 1
 have z2:=z0 2
 have z3:=z0 3
 have z4:=z0 4
 have z0:=z0 0
 simp only [List.getElem?_toArray,List.getElem?_cons_zero,List.getElem?_cons_succ] at y0 y1 y2 y3 y4 z0 z1 z2 z3 z4
 have hb5:=fun u0 u1 u2 u3 u4=>(((((hB.setCell (p:=⟨w.heap.size+1,0,none⟩) (by simp) u0).setCell (p:=⟨w.heap.size+1,1,none⟩) (by simp) u1).setCell (p:=⟨w.heap.size+1,2,none⟩) (by simp) u2).setCell (p:=⟨w.heap.size+1,3,none⟩) (by simp) u3).setCell (p:=⟨w.heap.size+1,4,none⟩) (by simp) u4)
 have hr5:=fun u0 u1 u2 u3 u4=>owns_set5 HR.out kZ (by decide) u0 u1 u2 u3 u4
 have HB5:=Lib.hid (And.intro hb5 hr5)
 cases hd:decide ((cmEnd gs os).holds.length≤16) with
 | false =>
  have HD:=Lib.hid hd
  clear hd hb5 hr5 kX kZ
  go_wp2
  refine bodyPost_ret (v:=.tuple #[.agg #[.int .i64 0,.int .i64 0,.int .i64 0,.int .i64 0,.slice none 0 0],.bool false]) (by simp [results,Tryz.results67,go_sem,z0,z1,z2,z3,z4,zf,zz]) rfl ?_
  exact ⟨_,by rw [HD.out],HB5.out.1 _ _ _ _ _,fun _=>rfl,fun h=>by rw [HD.out] at h;cases h⟩
 | true =>
  have HD:=Lib.hid hd
  clear hd hb5 hr5 kX kZ
  go_wp2
  refine bodyPost_ret (v:=.tuple #[.agg #[.int .i64 inp,.int .i64 os.length,.int .i64 (dlyL gs).length,.int .i64 (cmEnd gs os).holds.length,.slice ca (progL inp gs os).code.length cc],.bool true]) (by simp [results,Tryz.results67,go_sem,z0,z1,z2,z3,z4,zf,zz]) rfl ?_
  exact ⟨_,by rw [HD.out],HB5.out.1 _ _ _ _ _,fun h=>(by rw [HD.out] at h;cases h),fun _=>⟨ca,cc,rfl,HB5.out.2 _ _ _ _ _⟩⟩
def cmpB (p:Int) (g:GrI):Bool:=cogB p g && decide ((cmEnd (crGs g) (crOs g)).holds.length≤16)
def CmpP (p:Int) (g:GrI) (w:World) (e:Ending) (w':World):Prop :=
 ∃ v,e=.returned (.tuple #[v,.bool (cmpB p g)])∧Below w.heap.size w w'∧(cmpB p g=false → v=.agg #[.int .i64 0,.int .i64 0,.int .i64 0,.int .i64 0,.slice none 0 0]) ∧
  (cmpB p g=true → ∃ ca cc,v=.agg #[.int .i64 g.ins.length,.int .i64 (crOs g).length,.int .i64 (dlyL (crGs g)).length,.int .i64 (cmEnd (crGs g) (crOs g)).holds.length,.slice ca (progL g.ins.length (crGs g) (crOs g)).code.length cc]∧IRw w' w.heap.size (.slice ca (progL g.ins.length (crGs g) (crOs g)).code.length cc) (progL g.ins.length (crGs g) (crOs g)).code)
theorem cog_circ {p:Int} {g:GrI} (h:cogB p g=true):circB p g.ins.length (crGs g) (crOs g)=true:=by
 unfold cogB at h
 simp only [Bool.and_eq_true] at h
 exact h.2.2.2.2
theorem cmpS_any (p:Int) (ve vi vo:Value) (g:GrI) (w:World) (hR:GrR w ve vi vo g) (hok:GrOk g) :
  Calls Tryz.prog 28 #[.int .i64 p,.agg #[.int .i64 g.wires,ve,vi,vo]] w (CmpP p g w):=by
 obtain ⟨⟨ae,ce,rfl⟩,⟨ai,ci,rfl⟩,ao,co,rfl⟩:=hR.slices
 have hA:=alloc_below w (.cells #[.int .i64 g.wires,.slice ae g.edges.length ce,.slice ai g.ins.length ci,.slice ao g.outs.length co] 53)
 have hA2:=alloc_below (w.alloc (.cells #[.int .i64 g.wires,.slice ae g.edges.length ce,.slice ai g.ins.length ci,.slice ao g.outs.length co] 53)) (.cells #[.int .i64 0,.int .i64 0,.int .i64 0,.int .i64 0,.slice none 0 0] 68)
 have kG:=(Bk.new w 53 #[.int .i64 g.wires,.slice ae g.edges.length ce,.slice ai g.ins.length ci,.slice ao g.outs.length co]).keep hA2
 have kZ:=Bk.new (w.alloc (.cells #[.int .i64 g.wires,.slice ae g.edges.length ce,.slice ai g.ins.length ci,.slice ao g.outs.length co] 53)) 68 #[.int .i64 0,.int .i64 0,.int .i64 0,.int .i64 0,.slice none 0 0]
 rw [World.size_alloc] at kZ
 have hB:=hA.trans (hA2.mono hA.size)
 have HR:=Lib.hid hR
 have HOK:=Lib.hid hok
 clear hA hA2 hR hok
 go_enter Tryz.func28,Tryz.ntmps28
 go_wp2_with fail
 generalize ((w.alloc (.cells #[.int .i64 g.wires,.slice ae g.edges.length ce,.slice ai g.ins.length ci,.slice ao g.outs.length co] 53)).alloc (.cells #[.int .i64 0,.int .i64 0,.int .i64 0,.int .i64 0,.slice none 0 0] 68))=u0 at *
 refine (cogS_any p _ _ _ g u0 (HR.out.keep hB) HOK.out).mono ?_
 rintro e w1 ⟨v,rfl,hb1,hno,hyes⟩
 replace kZ:=kZ.keep hb1
 have hB0:=hB.size
 replace hB:=hB.trans (hb1.mono hB.size)
 clear kG
 cases hc:cogB p g with
 | false =>
  rw [hno hc]
  have HE:Hid (cmpB p g=false):=Lib.hid (by unfold cmpB;rw [hc];rfl)
  clear hno hyes hc
  have hA3:=alloc_below w1 (.cells #[.int .i64 0,.slice none 0 0,.slice none 0 0] 112)
  have hb5:=fun u0 u1 u2 u3 u4=>(((((hB.setCell (p:=⟨w.heap.size+1,0,none⟩) (by simp) u0).setCell (p:=⟨w.heap.size+1,1,none⟩) (by simp) u1).setCell (p:=⟨w.heap.size+1,2,none⟩) (by simp) u2).setCell (p:=⟨w.heap.size+1,3,none⟩) (by simp) u3).setCell (p:=⟨w.heap.size+1,4,none⟩) (by simp) u4)
  have hb6:=fun u0 u1 u2 u3 u4=>(hb5 u0 u1 u2 u3 u4).trans ((alloc_below _ (.cells #[.int .i64 0,.slice none 0 0,.slice none 0 0] 112)).mono (hb5 u0 u1 u2 u3 u4).size)
  have HB6:=Lib.hid hb6
  obtain ⟨z0,zf,zz⟩:=kZ.cell
  have z1:=z0 1
  have z2:=z0 2
  have z3:=z0 3
  have z4:=z0 4
  have z0:=z0 0
  simp only [List.getElem?_toArray,List.getElem?_cons_zero,List.getElem?_cons_succ] at z0 z1 z2 z3 z4
  clear hb5 hb6 hA3 kZ
  go_wp2
  refine bodyPost_ret (v:=.tuple #[.agg #[.int .i64 0,.int .i64 0,.int .i64 0,.int .i64 0,.slice none 0 0],.bool false]) (by simp [results,Tryz.results28,go_sem,z0,z1,z2,z3,z4,zf,zz]) rfl ?_
  exact ⟨_,by rw [HE.out],HB6.out _ _ _ _ _,fun _=>rfl,fun h=>(by rw [HE.out] at h;cases h)⟩
 | true =>
  obtain ⟨a,c,oa,oc,rfl,hgt,hin⟩:=hyes hc
  clear hno hyes
  have hA3:=alloc_below w1 (.cells #[.int .i64 g.ins.length,.slice a (crGs g).length c,.slice oa (crOs g).length oc] 112)
  replace kZ:=kZ.keep hA3
  replace hB:=hB.trans (hA3.mono hB.size)
  have hcc:=cc_any p g.ins.length _ _ (crGs g) (crOs g) _ (cog_circ hc) (hgt.keep hA3) (hin.keep hA3)
  have hs1:w.heap.size≤w1.heap.size+1:=by have:=hb1.size;omega
  have HC:=Lib.hid hcc
  have HE:=Lib.hid (show cmpB p g=decide ((cmEnd (crGs g) (crOs g)).holds.length≤16) by unfold cmpB;rw [hc];rfl)
  have hs2:=hB.size
  clear hcc hgt hin hA3 hb1 hc
  go_wp2_with fail
  generalize hSZ:w1.heap.size=sz at *
  generalize (w1.alloc (.cells #[.int .i64 g.ins.length,.slice a (crGs g).length c,.slice oa (crOs g).length oc] 112))=w2 at *
  refine HC.out.mono ?_
  rintro e w4 ⟨v,rfl,hb4,hno,hyes⟩
  replace kZ:=kZ.keep hb4
  replace hB:=hB.trans (hb4.mono hB.size)
  have hb5:=fun u0 u1 u2 u3 u4=>(((((hB.setCell (p:=⟨w.heap.size+1,0,none⟩) (by simp) u0).setCell (p:=⟨w.heap.size+1,1,none⟩) (by simp) u1).setCell (p:=⟨w.heap.size+1,2,none⟩) (by simp) u2).setCell (p:=⟨w.heap.size+1,3,none⟩) (by simp) u3).setCell (p:=⟨w.heap.size+1,4,none⟩) (by simp) u4)
  obtain ⟨z0,zf,zz⟩:=kZ.cell
  have z1:=z0 1
  have z2:=z0 2
  have z3:=z0 3
  have z4:=z0 4
  have z0:=z0 0
  simp only [List.getElem?_toArray,List.getElem?_cons_zero,List.getElem?_cons_succ] at z0 z1 z2 z3 z4
  cases hd:decide ((cmEnd (crGs g) (crOs g)).holds.length≤16) with
  | false =>
   rw [hno hd]
   have HD:=Lib.hid (HE.out.trans hd)
   have HB5:=Lib.hid hb5
   clear hd hb5 hno hyes kZ HE
   go_wp2
   refine bodyPost_ret (v:=.tuple #[.agg #[.int .i64 0,.int .i64 0,.int .i64 0,.int .i64 0,.slice none 0 0],.bool false]) (by simp [results,Tryz.results28,go_sem,z0,z1,z2,z3,z4,zf,zz]) rfl ?_
   exact ⟨_,by rw [HD.out],HB5.out _ _ _ _ _,fun _=>rfl,fun h=>(by rw [HD.out] at h;cases h)⟩
  | true =>
   obtain ⟨ca,cc,rfl,hrow⟩:=hyes hd
   have hr5:=fun u0 u1 u2 u3 u4=>owns_set5 (IRw.mono hrow hs2) kZ (by decide) u0 u1 u2 u3 u4
   have HD:=Lib.hid (HE.out.trans hd)
   have HB5:=Lib.hid (And.intro hb5 hr5)
   clear hd hb5 hr5 hno hyes kZ HE hrow
   go_wp2
   refine bodyPost_ret (v:=.tuple #[.agg #[.int .i64 g.ins.length,.int .i64 (crOs g).length,.int .i64 (dlyL (crGs g)).length,.int .i64 (cmEnd (crGs g) (crOs g)).holds.length,.slice ca (progL g.ins.length (crGs g) (crOs g)).code.length cc],.bool true]) (by simp [results,Tryz.results28,go_sem,z0,z1,z2,z3,z4,zf,zz]) rfl ?_
   exact ⟨_,by rw [HD.out],HB5.out.1 _ _ _ _ _,fun h=>(by rw [HD.out] at h;cases h),fun _=>⟨ca,cc,rfl,HB5.out.2 _ _ _ _ _⟩⟩
end Go.Proofs.YtbljmfcifljkaaaGreatDoor
