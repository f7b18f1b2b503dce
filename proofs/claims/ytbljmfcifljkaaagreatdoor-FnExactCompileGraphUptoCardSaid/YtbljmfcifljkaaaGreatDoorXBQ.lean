/-
  The law of CompileGraph, walked. Own work.
-/
import Derived.Test.YtbljmfcifljkaaaGreatDoorXBO
import Derived.Test.YtbljmfcifljkaaaGreatDoorXBP
import Derived.Test.YtbljmfcifljkaaaGreatDoorXBI
set_option linter.all false
set_option maxRecDepth 100000
set_option maxHeartbeats 8000000
namespace Go.Proofs.YtbljmfcifljkaaaGreatDoor
open Go.RowKit
set_option maxRecDepth 100000
set_option maxHeartbeats 8000000
def cmpR (p:Int) (g:GrI):PgI:=if cmpB p g=true then progL g.ins.length (crGs g) (crOs g) else ⟨0,0,0,0,[]⟩
theorem cmpR_len (p:Int) (g:GrI):(cmpR p g).code.length≤120:=by
 unfold cmpR
 by_cases h:cmpB p g=true
 ·rw [if_pos h]
  unfold cmpB at h
  simp only [Bool.and_eq_true] at h
  exact (prog_parts (cog_circ h.1)).2.2.2.2.2.1
 ·rw [if_neg h]
  exact Nat.zero_le _
def PrgP (x:PgI) (b:Bool) (w:World) (e:Ending) (w':World):Prop :=
 ∃ ca cc,e=.returned (.tuple #[.agg #[.int .i64 x.inputs,.int .i64 x.outputs,.int .i64 x.cells,.int .i64 x.regs,.slice ca x.code.length cc],.bool b])∧IRw w' w.heap.size (.slice ca x.code.length cc) x.code∧Below w.heap.size w w'
theorem prg_of {p:Int} {g:GrI} {w w':World} {e:Ending} (h:CmpP p g w e w'):PrgP (cmpR p g) (cmpB p g) w e w':=by
 obtain ⟨v,rfl,hb,hno,hyes⟩:=h
 by_cases hc:cmpB p g=true
 ·obtain ⟨ca,cc,rfl,hr⟩:=hyes hc
  have hR:cmpR p g=progL g.ins.length (crGs g) (crOs g):=if_pos hc
  rw [hR]
  exact ⟨ca,cc,rfl,hr,hb⟩
 ·have hf:cmpB p g=false:=by simpa using hc
  have hR:cmpR p g=⟨0,0,0,0,[]⟩:=if_neg hc
  rw [hno hf,hR]
  exact ⟨none,0,rfl,World.ownsRow_nil _ _ _ _,hb⟩
def ToGrQ (g:GrI) (w:World) (e:Ending) (w':World):Prop:=∃ ve vi vo,e=.returned (.agg #[.int .i64 g.wires,ve,vi,vo])∧GrO w' w.heap.size ve vi vo g∧Below w.heap.size w w'
theorem lawCg_any (p:Int) (g:GrI) (ve vi vo:Value) (w:World) (hpt:PrimeTab w) (h:GrR w ve vi vo g) (hok:GrOk g) :
  Calls Tryz.prog 7 #[.int .i64 p,.agg #[.int .i64 g.wires,ve,vi,vo]] w fun r w'=>r=.returned (.bool true)∧Below w.heap.size w w':=by
 have hsz:=fun (u:World) (hu:Below w.heap.size w u)=>szGraph_any g.wires ve vi vo g 1048576 u (h.keep hu) hok (by omega) (by omega)
 have hto:=fun (u:World) (hu:Below w.heap.size w u)=>(toGraph_any g ve vi vo u (h.keep hu) hok).mono (R':=ToGrQ g u) fun _ _ hq=>hq
 have hS:=fun (u:World) (ve vi vo:Value) (hR:GrR u ve vi vo g)=>(cmpS_any p ve vi vo g u hR hok).mono (R':=PrgP (cmpR p g) (cmpB p g) u) fun _ _ hq=>prg_of hq
 have hI:=fun (u:World) (hu:Below w.heap.size w u) (ve vi vo:Value) (hR:GrR u ve vi vo g)=>(cmpI_any p ve vi vo g u (hpt.keep hu) hR hok).mono (R':=PrgP (cmpR p g) (cmpB p g) u) fun _ _ hq=>prg_of hq
 have hE:=fun (u:World) (ve vi vo ve' vi' vo':Value) (h1:GrR u ve vi vo g) (h2:GrR u ve' vi' vo' g)=>eqGraph_same g.wires ve vi vo ve' vi' vo' g u h1 h2 hok
 have hM:=fun (T:Nat → Prop) (u:World) (B:Nat) (ve vi vo:Value) (hO:GrO u B ve vi vo g) (hT:∀ j,B≤j → j<u.heap.size → T j) (u':World) (hb:Below u.heap.size u u') (hl:∀ j,T j → j<u'.heap.size) =>
  markGraph_any T g.wires ve vi vo g.edges.length g.ins.length g.outs.length 1 u' ((shE_of hO.ed hok.eds hT).keep (IntW.low hb)) ((shI_of hO.inn hT).keep (IntW.low hb)) ((shI_of hO.out hT).keep (IntW.low hb)) hok.ed hok.inn hok.out (by omega) (by omega) hl
 have hlen:=cmpR_len p g
 generalize cmpR p g=x at hS hI hlen
 generalize cmpB p g=ok at hS hI
 have hP:=fun (u:World) (v v':Value) (h1:InsAt u v x.code) (h2:InsAt u v' x.code)=>eqProgram_same x v v' u h1 h2 (by omega)
 have hMP:=fun (v:Value) (B:Nat) (u:World) (hv:IRw u B v x.code)=>markProgram_any x.inputs x.outputs x.cells x.regs v x.code 1 B u hv (by omega) (by omega) (by omega)
 have hHP:=fun (v:Value) (u:World) (hv:InsAt u v (mkIns x.code.length 1))=>heldProgram_any x.inputs x.outputs x.cells x.regs v x.code.length 1 u hv (by omega) (by omega) (by omega)
 obtain ⟨⟨a1,c1,rfl⟩,⟨a2,c2,rfl⟩,a3,c3,rfl⟩:=h.slices
 have hA1:=alloc_below w (.cells #[.int .i64 g.wires,.slice a1 g.edges.length c1,.slice a2 g.ins.length c2,.slice a3 g.outs.length c3] 42)
 have kS:=Bk.new w 42 #[.int .i64 g.wires,.slice a1 g.edges.length c1,.slice a2 g.ins.length c2,.slice a3 g.outs.length c3]
 have HSZ:=Lib.hid hsz
 have HTO:=Lib.hid hto
 have HS:=Lib.hid hS
 have HI:=Lib.hid hI
 have HE:=Lib.hid hE
 have HM:=Lib.hid hM
 have HP:=Lib.hid hP
 have HMP:=Lib.hid hMP
 have HHP:=Lib.hid hHP
 clear hsz hto hS hI hE hM hP hMP hHP h hpt hok
 have hbn:(ok != ok)=false:=by simp
 obtain ⟨N,hN⟩:∃ N:Int,N=1+5 * x.code.length:=⟨_,rfl⟩
 have hNn:¬ N<0:=by omega
 have hNN:(N != N)=false:=by simp
 rw [← hN] at HMP HHP
 have HN:=Lib.hid hN
 clear hN hlen
 go_enter Tryz.func7,Tryz.ntmps7
 obtain ⟨iS,-,zS⟩:=kS.cell
 go_wp2_with fail
 generalize (w.alloc (.cells #[.int .i64 g.wires,.slice a1 g.edges.length c1,.slice a2 g.ins.length c2,.slice a3 g.outs.length c3] 42))=u0 at *
 refine (HSZ.out _ hA1).mono ?_
 rintro q w1 ⟨n1,rfl,hn1,hn1',hb1⟩
 clear iS zS
 replace kS:=kS.keep hb1
 have hB1:=hA1.trans (hb1.mono hA1.size)
 clear hb1 hA1
 obtain ⟨iS,-,zS⟩:=kS.cell
 by_cases hneg:n1<0
 ·go_wp2
  go_ret
  exact ⟨rfl,hB1⟩
 go_wp2_with fail
 refine (HTO.out _ hB1).mono ?_
 rintro q w2 ⟨ve2,vi2,vo2,rfl,hR2,hb2⟩
 clear iS zS
 go_wp2_with fail
 refine (HS.out _ _ _ _ hR2.at).mono ?_
 rintro q w3 ⟨ca,cc,rfl,hr3,hb3⟩
 have hb13:=hb2.trans (hb3.mono hb2.size)
 have hA3:=alloc_below w3 (.cells #[.int .i64 x.inputs,.int .i64 x.outputs,.int .i64 x.cells,.int .i64 x.regs,.slice ca x.code.length cc] 68)
 have k6:=Bk.new w3 68 #[.int .i64 x.inputs,.int .i64 x.outputs,.int .i64 x.cells,.int .i64 x.regs,.slice ca x.code.length cc]
 have hb1u:=hb13.trans (hA3.mono hb13.size)
 replace kS:=kS.keep hb1u
 have hB3:=hB1.trans (hb1u.mono hB1.size)
 replace hr3:=hr3.keep hA3
 have z3:(w3.alloc (.cells #[.int .i64 x.inputs,.int .i64 x.outputs,.int .i64 x.cells,.int .i64 x.regs,.slice ca x.code.length cc] 68)).heap.size=w3.heap.size+1:=by simp
 have o3:∀ j,(Value.slice ca x.code.length cc).ownBlock=some j → j<w3.heap.size+1:=fun j hj=>by have:=(World.ownsRow.lt hr3 j hj).2;omega
 have zS3:=kS.lt
 clear hb2 hb3 hb13 hA3 hb1u hR2 hB1
 obtain ⟨iS,-,zS⟩:=kS.cell
 go_wp2_with fail
 generalize (w3.alloc (.cells #[.int .i64 x.inputs,.int .i64 x.outputs,.int .i64 x.cells,.int .i64 x.regs,.slice ca x.code.length cc] 68))=u3 at *
 refine (HTO.out _ hB3).mono ?_
 rintro q w4 ⟨ve4,vi4,vo4,rfl,hO4,hb4⟩
 obtain ⟨⟨b1,d1,rfl⟩,⟨b2,d2,rfl⟩,b3,d3,rfl⟩:=hO4.slices
 clear iS zS
 have HM4:=Lib.hid (fun T hT=>HM.out T w4 u3.heap.size _ _ _ hO4 hT)
 have hR4:=hO4.at
 have hA4:=alloc_below w4 (.cells #[.int .i64 g.wires,.slice b1 g.edges.length d1,.slice b2 g.ins.length d2,.slice b3 g.outs.length d3] 53)
 have k8:=Bk.new w4 53 #[.int .i64 g.wires,.slice b1 g.edges.length d1,.slice b2 g.ins.length d2,.slice b3 g.outs.length d3]
 have hb34:=hb4.trans (hA4.mono hb4.size)
 have z4:(w4.alloc (.cells #[.int .i64 g.wires,.slice b1 g.edges.length d1,.slice b2 g.ins.length d2,.slice b3 g.outs.length d3] 53)).heap.size=w4.heap.size+1:=by simp
 have y4:=hb4.size
 replace kS:=kS.keep hb34
 replace k6:=k6.keep hb34
 replace hr3:=hr3.keep hb34
 have hB4:=hB3.trans (hb34.mono hB3.size)
 have hA4':=hA4
 replace hR4:=hR4.keep hA4
 clear hA4 hb34 hO4 HM
 obtain ⟨i8,-,z8⟩:=k8.cell
 go_wp2_with fail
 generalize (w4.alloc (.cells #[.int .i64 g.wires,.slice b1 g.edges.length d1,.slice b2 g.ins.length d2,.slice b3 g.outs.length d3] 53))=u4 at *
 clear i8 z8
 refine (HI.out _ hB4 _ _ _ hR4).mono ?_
 rintro q w5 ⟨cb,cd,rfl,hr5,hb5⟩
 have hA5:=alloc_below w5 (.cells #[.int .i64 x.inputs,.int .i64 x.outputs,.int .i64 x.cells,.int .i64 x.regs,.slice cb x.code.length cd] 68)
 have k9:=Bk.new w5 68 #[.int .i64 x.inputs,.int .i64 x.outputs,.int .i64 x.cells,.int .i64 x.regs,.slice cb x.code.length cd]
 have hb45:=hb5.trans (hA5.mono hb5.size)
 have o5:∀ j,(Value.slice cb x.code.length cd).ownBlock=some j → u4.heap.size≤j∧j<w5.heap.size:=fun j hj=>World.ownsRow.lt hr5 j hj
 have y5:=hb5.size
 replace kS:=kS.keep hb45
 replace k6:=k6.keep hb45
 replace k8:=k8.keep hb45
 replace hR4:=hR4.keep hb45
 replace hr3:=hr3.keep hb45
 replace hr5:=hr5.keep hA5
 have hB5:=hB4.trans (hb45.mono hB4.size)
 have hL5:=hA4'.trans (hb45.mono hA4'.size)
 clear hb5 hb45 hB4 hA5 hA4'
 obtain ⟨i6,-,z6⟩:=k6.cell
 go_wp2_with fail
 have z5:(w5.alloc (.cells #[.int .i64 x.inputs,.int .i64 x.outputs,.int .i64 x.cells,.int .i64 x.regs,.slice cb x.code.length cd] 68)).heap.size=w5.heap.size+1:=by simp
 generalize (w5.alloc (.cells #[.int .i64 x.inputs,.int .i64 x.outputs,.int .i64 x.cells,.int .i64 x.regs,.slice cb x.code.length cd] 68))=u5 at *
 clear i6 z6
 refine (HP.out _ _ _ hr5.at hr3.at).mono ?_
 rintro q w6 ⟨rfl,hb6⟩
 replace kS:=kS.keep hb6
 replace k6:=k6.keep hb6
 replace k8:=k8.keep hb6
 replace k9:=k9.keep hb6
 replace hR4:=hR4.keep hb6
 replace hr3:=hr3.keep hb6
 replace hr5:=hr5.keep hb6
 have y6:=hb6.size
 have hB6:=hB5.trans (hb6.mono hB5.size)
 have hL6:=hL5.trans (hb6.mono hL5.size)
 clear hb6 hB5 hL5
 obtain ⟨iS,-,zS⟩:=kS.cell
 obtain ⟨iD,-,zD⟩:=k8.cell
 go_wp2_with fail
 have up7:∀ {w':World},Exc NoT w6.drew w' → Below w6.heap.size w6 w':=fun h=>(Below.refl w6.heap.size w6).drew.trans (h.toBelow.mono (by simp))
 refine region_acts (C:=Exc (NoT) _) 4 [0,1,2,3,4] (by kernel_rfl) (by kernel_rfl) (Exc.grows _ _) (Exc.refl _ _) ?_
 iterate 2 (apply x_st rfl rfl rfl;(focus intro u hc' hf';go_simp <;> rfl);intro K hK;go_simp;apply hK;clear hK K)
 refine x_call rfl rfl rfl (Exc.grows _ _) (Exc.refl _ _) 29 (fun K hK=>?_);apply Exists.intro;refine ⟨fun w' hw'=>?_,fun wa hwa hbwa=>?_⟩;(focus go_simp;rfl);refine (HTO.out _ (hB6.trans ((up7 hwa).mono hB6.size))).mono ?_;rintro e w8 ⟨ve8,vi8,vo8,rfl,hR8,hb8⟩;refine ⟨_,rfl,hb8,fun hx=>?_⟩;go_simp;apply hK;clear hK K
 refine x_call rfl rfl rfl (Exc.grows _ _) (hx) 32 (fun K hK=>?_);apply Exists.intro;refine ⟨fun w' hw'=>?_,fun wb hwb hbwb=>?_⟩;(focus go_simp;rfl);refine (HE.out _ _ _ _ _ _ _ (hR4.keep (up7 hwb)) (hR8.at.keep hbwb)).mono ?_;rintro e w9 ⟨rfl,hb9⟩;refine ⟨_,rfl,hb9,fun hx=>?_⟩;go_simp;apply hK;clear hK K
 iterate 1 (apply x_st rfl rfl rfl;(focus intro u hc' hf';go_simp <;> rfl);intro K hK;go_simp;apply hK;clear hK K)
 refine x_nil ?_
 have hb69:=up7 hx
 clear up7 iS zS iD zD
 replace kS:=kS.keep hb69
 replace k6:=k6.keep hb69
 replace k8:=k8.keep hb69
 replace k9:=k9.keep hb69
 replace hr3:=hr3.keep hb69
 replace hr5:=hr5.keep hb69
 have y9:=hb69.size
 have hB9:=hB6.trans (hb69.mono hB6.size)
 have hL9:=hL6.trans (hb69.mono hL6.size)
 have yL:=hL9.size
 clear hb69 hB6 hL6 hR4
 obtain ⟨iD,-,zD⟩:=k8.cell
 go_wp2_with fail
 clear iD zD
 refine (HM4.out (fun j=>u3.heap.size≤j∧j<w4.heap.size) (fun j h1 h2=>⟨h1,h2⟩) w9 hL9 (fun j hj=>by omega)).mono ?_
 rintro q w10 ⟨k',rfl,hk0,hW⟩
 have hx10:=hW.exc
 replace kS:=kS.exc hx10 (fun h=>by omega)
 replace k6:=k6.exc hx10 (fun h=>by omega)
 replace k8:=k8.exc hx10 (fun h=>by omega)
 replace k9:=k9.exc hx10 (fun h=>by omega)
 replace hr3:IRw w10 _ _ _:=owns_exc hx10 hr3 (fun j hj h=>by have:=o3 j hj;omega)
 replace hr5:IRw w10 _ _ _:=owns_exc hx10 hr5 (fun j hj h=>by have:=o5 j hj;omega)
 have hB10:=hB9.trans (below_exc hx10 hB9.size (fun j hj=>by have:=hB3.size;omega))
 have y10:=hx10.size
 clear hW hx10 hB9 HM4 hL9
 have hkn:¬ k'<0:=by omega
 obtain ⟨i6,-,z6⟩:=k6.cell
 obtain ⟨i9,-,z9⟩:=k9.cell
 go_wp2_with fail
 clear i6 z6 i9 z9
 refine (HP.out _ _ _ hr5.at hr3.at).mono ?_
 rintro q w11 ⟨rfl,hb11⟩
 replace kS:=kS.keep hb11
 replace k6:=k6.keep hb11
 replace k9:=k9.keep hb11
 replace hr3:=hr3.keep hb11
 replace hr5:=hr5.keep hb11
 have hB11:=hB10.trans (hb11.mono hB10.size)
 have y11:=hb11.size
 clear hb11 hB10 k8
 obtain ⟨i9,-,z9⟩:=k9.cell
 go_wp2_with fail
 clear i9 z9
 refine (HMP.out _ _ _ hr5).mono ?_
 rintro q w12 ⟨rfl,ho12,hx12⟩
 replace kS:=kS.exc hx12 (fun h=>by have:=o5 _ h;omega)
 replace k6:=k6.exc hx12 (fun h=>by have:=o5 _ h;omega)
 replace k9:=k9.exc hx12 (fun h=>by have:=o5 _ h;omega)
 replace hr3:IRw w12 _ _ _:=owns_exc hx12 hr3 (fun j hj h=>by have:=o3 j hj;have:=o5 _ h;omega)
 have hB12:=hB11.trans (below_exc hx12 hB11.size (fun j hj=>by have:=o5 _ hj;have:=hB3.size;omega))
 have y12:=hx12.size
 have hm12:=ho12.at
 clear hx12 hB11 ho12 hr5
 obtain ⟨i9,-,z9⟩:=k9.cell
 go_wp2_with fail
 clear i9 z9
 refine (HHP.out _ _ hm12).mono ?_
 rintro q w13 ⟨rfl,hb13⟩
 replace kS:=kS.keep hb13
 replace k6:=k6.keep hb13
 replace k9:=k9.keep hb13
 replace hr3:=hr3.keep hb13
 replace hm12:=hm12.keep hb13
 have hB13:=hB12.trans (hb13.mono hB12.size)
 clear hb13 hB12
 obtain ⟨iS,-,zS⟩:=kS.cell
 go_wp2_with fail
 clear iS zS
 refine (HTO.out _ hB13).mono ?_
 rintro q w14 ⟨ve14,vi14,vo14,rfl,hO14,hb14⟩
 have hB14:=hB13.trans (hb14.mono hB13.size)
 go_wp2_with fail
 refine (HI.out _ hB14 _ _ _ hO14.at).mono ?_
 rintro q w15 ⟨ce,cf,rfl,hr15,hb15⟩
 have hA15:=alloc_below w15 (.cells #[.int .i64 x.inputs,.int .i64 x.outputs,.int .i64 x.cells,.int .i64 x.regs,.slice ce x.code.length cf] 68)
 have hb135:=(hb14.trans (hb15.mono hb14.size))
 have hb1u5:=hb135.trans (hA15.mono hb135.size)
 replace k6:=k6.keep hb1u5
 replace k9:=k9.keep hb1u5
 replace hr3:=hr3.keep hb1u5
 replace hm12:=hm12.keep hb1u5
 replace hr15:=hr15.keep hA15
 have hB15:=hB13.trans (hb1u5.mono hB13.size)
 clear hb14 hb15 hA15 hb135 hb1u5 hB13 hB14 hO14 kS
 obtain ⟨i6,-,z6⟩:=k6.cell
 go_wp2_with fail
 generalize (w15.alloc (.cells #[.int .i64 x.inputs,.int .i64 x.outputs,.int .i64 x.cells,.int .i64 x.regs,.slice ce x.code.length cf] 68))=u15 at *
 clear i6 z6
 refine (HP.out _ _ _ hr15.at hr3.at).mono ?_
 rintro q w16 ⟨rfl,hb16⟩
 replace k9:=k9.keep hb16
 replace hm12:=hm12.keep hb16
 have hB16:=hB15.trans (hb16.mono hB15.size)
 clear hb16 hB15 k6 hr15 hr3
 obtain ⟨i9,-,z9⟩:=k9.cell
 go_wp2_with fail
 clear i9 z9
 refine (HHP.out _ _ hm12).mono ?_
 rintro q w17 ⟨rfl,hb17⟩
 have hB17:=hB16.trans (hb17.mono hB16.size)
 go_wp2
 go_ret
 exact ⟨rfl,hB17⟩
end Go.Proofs.YtbljmfcifljkaaaGreatDoor
