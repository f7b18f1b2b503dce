/-
  The program of a graph, by the program. Own work.
-/
import Derived.Test.YtbljmfcifljkaaaGreatDoorXBN
set_option linter.all false
set_option maxRecDepth 100000
set_option maxHeartbeats 8000000
namespace Go.Proofs.YtbljmfcifljkaaaGreatDoor
open Go.RowKit
set_option maxRecDepth 100000
set_option maxHeartbeats 2000000
theorem cmpI_any (p:Int) (ve vi vo:Value) (g:GrI) (w:World) (ht:PrimeTab w) (hR:GrR w ve vi vo g) (hok:GrOk g) :
  Calls Tryz.prog 30 #[.int .i64 p,.agg #[.int .i64 g.wires,ve,vi,vo]] w (CmpP p g w):=by
 obtain ⟨⟨ae,ce,rfl⟩,⟨ai,ci,rfl⟩,ao,co,rfl⟩:=hR.slices
 have hA:=alloc_below w (.cells #[.int .i64 g.wires,.slice ae g.edges.length ce,.slice ai g.ins.length ci,.slice ao g.outs.length co] 53)
 have hA2:=alloc_below (w.alloc (.cells #[.int .i64 g.wires,.slice ae g.edges.length ce,.slice ai g.ins.length ci,.slice ao g.outs.length co] 53)) (.cells #[.int .i64 0,.int .i64 0,.int .i64 0,.int .i64 0,.slice none 0 0] 68)
 have kG:=(Bk.new w 53 #[.int .i64 g.wires,.slice ae g.edges.length ce,.slice ai g.ins.length ci,.slice ao g.outs.length co]).keep hA2
 have kZ:=Bk.new (w.alloc (.cells #[.int .i64 g.wires,.slice ae g.edges.length ce,.slice ai g.ins.length ci,.slice ao g.outs.length co] 53)) 68 #[.int .i64 0,.int .i64 0,.int .i64 0,.int .i64 0,.slice none 0 0]
 rw [World.size_alloc] at kZ
 have hB:=hA.trans (hA2.mono hA.size)
 have HR:=Lib.hid hR
 have HOK:=Lib.hid hok
 have HT:=Lib.hid ht
 clear hA hA2 hR hok ht
 go_enter Tryz.func30,Tryz.ntmps30
 go_wp2_with fail
 generalize ((w.alloc (.cells #[.int .i64 g.wires,.slice ae g.edges.length ce,.slice ai g.ins.length ci,.slice ao g.outs.length co] 53)).alloc (.cells #[.int .i64 0,.int .i64 0,.int .i64 0,.int .i64 0,.slice none 0 0] 68))=u0 at *
 refine (cogI_any p _ _ _ g u0 (HT.out.keep hB) (HR.out.keep hB) HOK.out).mono ?_
 rintro e w1 ⟨v,rfl,hb1,hno,hyes⟩
 replace kZ:=kZ.keep hb1
 have hB0:=hB.size
 replace hB:=hB.trans (hb1.mono hB.size)
 clear kG
 cases hc:cogB p g with
 | false =>
  rw [hno hc]
  have HE:Hid (cmpB p g=false):=Lib.hid (by unfold cmpB;rw [hc];rfl)
  clear hno hyes hc
  have hA3:=alloc_below w1 (.cells #[.int .i64 0,.slice none 0 0,.slice none 0 0] 112)
  have hb5:=fun u0 u1 u2 u3 u4=>(((((hB.setCell (p:=⟨w.heap.size+1,0,none⟩) (by simp) u0).setCell (p:=⟨w.heap.size+1,1,none⟩) (by simp) u1).setCell (p:=⟨w.heap.size+1,2,none⟩) (by simp) u2).setCell (p:=⟨w.heap.size+1,3,none⟩) (by simp) u3).setCell (p:=⟨w.heap.size+1,4,none⟩) (by simp) u4)
  have hb6:=fun u0 u1 u2 u3 u4=>(hb5 u0 u1 u2 u3 u4).trans ((alloc_below _ (.cells #[.int .i64 0,.slice none 0 0,.slice none 0 0] 112)).mono (hb5 u0 u1 u2 u3 u4).size)
  have HB6:=Lib.hid hb6
  obtain ⟨z0,zf,zz⟩:=kZ.cell
  have z1:=z0 1
  have z2:=z0 2
  have z3:=z0 3
  have z4:=z0 4
  have z0:=z0 0
  simp only [List.getElem?_toArray,List.getElem?_cons_zero,List.getElem?_cons_succ] at z0 z1 z2 z3 z4
  clear hb5 hb6 hA3 kZ
  go_wp2
  refine bodyPost_ret (v:=.tuple #[.agg #[.int .i64 0,.int .i64 0,.int .i64 0,.int .i64 0,.slice none 0 0],.bool false]) (by simp [results,Tryz.results30,go_sem,z0,z1,z2,z3,z4,zf,zz]) rfl ?_
  exact ⟨_,by rw [HE.out],HB6.out _ _ _ _ _,fun _=>rfl,fun h=>(by rw [HE.out] at h;cases h)⟩
 | true =>
  obtain ⟨a,c,oa,oc,rfl,hgt,hin⟩:=hyes hc
  clear hno hyes
  have hA3:=alloc_below w1 (.cells #[.int .i64 g.ins.length,.slice a (crGs g).length c,.slice oa (crOs g).length oc] 112)
  replace kZ:=kZ.keep hA3
  replace hB:=hB.trans (hA3.mono hB.size)
  have hcc:=compile_any p g.ins.length _ _ (crGs g) (crOs g) _ (ciOk_of (cog_circ hc)) (hgt.keep hA3) (hin.keep hA3)
  have hs1:w.heap.size≤w1.heap.size+1:=by have:=hb1.size;omega
  have HC:=Lib.hid hcc
  have HE:=Lib.hid (show cmpB p g=decide ((cmEnd (crGs g) (crOs g)).holds.length≤16) by unfold cmpB;rw [hc];rfl)
  have hs2:=hB.size
  clear hcc hgt hin hA3 hb1 hc
  go_wp2_with fail
  generalize hSZ:w1.heap.size=sz at *
  generalize (w1.alloc (.cells #[.int .i64 g.ins.length,.slice a (crGs g).length c,.slice oa (crOs g).length oc] 112))=w2 at *
  refine HC.out.mono ?_
  rintro e w4 ⟨v,rfl,hb4,hno,hyes⟩
  replace kZ:=kZ.keep hb4
  replace hB:=hB.trans (hb4.mono hB.size)
  have hb5:=fun u0 u1 u2 u3 u4=>(((((hB.setCell (p:=⟨w.heap.size+1,0,none⟩) (by simp) u0).setCell (p:=⟨w.heap.size+1,1,none⟩) (by simp) u1).setCell (p:=⟨w.heap.size+1,2,none⟩) (by simp) u2).setCell (p:=⟨w.heap.size+1,3,none⟩) (by simp) u3).setCell (p:=⟨w.heap.size+1,4,none⟩) (by simp) u4)
  obtain ⟨z0,zf,zz⟩:=kZ.cell
  have z1:=z0 1
  have z2:=z0 2
  have z3:=z0 3
  have z4:=z0 4
  have z0:=z0 0
  simp only [List.getElem?_toArray,List.getElem?_cons_zero,List.getElem?_cons_succ] at z0 z1 z2 z3 z4
  cases hd:decide ((cmEnd (crGs g) (crOs g)).holds.length≤16) with
  | false =>
   rw [hno hd]
   have HD:=Lib.hid (HE.out.trans hd)
   have HB5:=Lib.hid hb5
   clear hd hb5 hno hyes kZ HE
   go_wp2
   refine bodyPost_ret (v:=.tuple #[.agg #[.int .i64 0,.int .i64 0,.int .i64 0,.int .i64 0,.slice none 0 0],.bool false]) (by simp [results,Tryz.results30,go_sem,z0,z1,z2,z3,z4,zf,zz]) rfl ?_
   exact ⟨_,by rw [HD.out],HB5.out _ _ _ _ _,fun _=>rfl,fun h=>(by rw [HD.out] at h;cases h)⟩
  | true =>
   obtain ⟨ca,cc,rfl,hrow⟩:=hyes hd
   have hr5:=fun u0 u1 u2 u3 u4=>owns_set5 (IRw.mono hrow hs2) kZ (by decide) u0 u1 u2 u3 u4
   have HD:=Lib.hid (HE.out.trans hd)
   have HB5:=Lib.hid (And.intro hb5 hr5)
   clear hd hb5 hr5 hno hyes kZ HE hrow
   go_wp2
   refine bodyPost_ret (v:=.tuple #[.agg #[.int .i64 g.ins.length,.int .i64 (crOs g).length,.int .i64 (dlyL (crGs g)).length,.int .i64 (cmEnd (crGs g) (crOs g)).holds.length,.slice ca (progL g.ins.length (crGs g) (crOs g)).code.length cc],.bool true]) (by simp [results,Tryz.results30,go_sem,z0,z1,z2,z3,z4,zf,zz]) rfl ?_
   exact ⟨_,by rw [HD.out],HB5.out.1 _ _ _ _ _,fun h=>(by rw [HD.out] at h;cases h),fun _=>⟨ca,cc,rfl,HB5.out.2 _ _ _ _ _⟩⟩
end Go.Proofs.YtbljmfcifljkaaaGreatDoor
