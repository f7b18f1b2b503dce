/-
  The law of ParseAct, walked. Own work.
-/
import Derived.Test.YtbljmfcifljkaaaGreatDoorUPV
import Derived.Test.YtbljmfcifljkaaaGreatDoorUSA
set_option linter.all false
set_option maxRecDepth 100000
set_option maxHeartbeats 8000000
namespace Go.Proofs.YtbljmfcifljkaaaGreatDoor
open Go.RowKit
set_option maxRecDepth 100000
set_option maxHeartbeats 8000000
def ToSnQ (s:SnI) (w:World) (e:Ending) (w':World):Prop:=∃ vp ne ni no vf ge gi go,e=.returned (snV s vp ne ni no vf ge gi go)∧SnR w' vp ne ni no vf ge gi go s∧Below w.heap.size w w'
theorem lawPa_any (s:SnI) (vp ne ni no vf ge gi go:Value) (T:ByteArray) (w:World) (hpt:PrimeTab w) (ht:PowTab w) (hsp:SplTab w) (hao:AtoTab w) (hT:T.size≤1048576) (h:SnR w vp ne ni no vf ge gi go s) (hok:SnOk s) :
  Calls Tryz.prog 6 #[snV s vp ne ni no vf ge gi go,.string T] w fun r w'=>r=.returned (.bool true)∧Below w.heap.size w w':=by
 have hsz:=fun (u:World) (hu:Below w.heap.size w u)=>szSession_any s vp ne ni no vf ge gi go 1048576 u (h.keep hu) hok (by omega) (by omega)
 have hto:=fun (u:World) (hu:Below w.heap.size w u)=>(toSession_any s vp ne ni no vf ge gi go u (h.keep hu) hok).mono (R':=ToSnQ s u) fun _ _ hq=>hq
 unfold snV at hsz hto
 obtain ⟨⟨a1,c1,rfl⟩,⟨⟨a2,c2,rfl⟩,⟨a3,c3,rfl⟩,a4,c4,rfl⟩,⟨a5,c5,rfl⟩,⟨a6,c6,rfl⟩,⟨a7,c7,rfl⟩,a8,c8,rfl⟩:=h.slices
 have hS:=fun (u:World) (vp ne ni no vf ge gi go:Value) (hR:SnR u vp ne ni no vf ge gi go s)=>parseActS_any s vp ne ni no vf ge gi go T u hR hok hT
 have hI:=fun (u:World) (hu:Below w.heap.size w u) (vp ne ni no vf ge gi go:Value) (hR:SnR u vp ne ni no vf ge gi go s)=>parseActI_any s vp ne ni no vf ge gi go T u hR hok hT (hpt.keep hu) (ht.keep hu) (hsp.keep hu) (hao.keep hu)
 have hE:=fun (u:World) (vp ne ni no vf ge gi go vp' ne' ni' no' vf' ge' gi' go':Value) (h1:SnR u vp ne ni no vf ge gi go s) (h2:SnR u vp' ne' ni' no' vf' ge' gi' go' s)=>eqSession_same s vp ne ni no vf ge gi go vp' ne' ni' no' vf' ge' gi' go' u h1 h2 hok
 unfold snV
 unfold AcRP at hS hI
 generalize acPars s T=O at *
 obtain ⟨⟨k,r,a⟩,hX⟩:∃ x,O.getD ⟨0,0,0⟩=x:=⟨_,rfl⟩
 obtain ⟨ok,hk⟩:∃ b,O.isSome=b:=⟨_,rfl⟩
 rw [hX,hk] at hS hI
 have hea:=fun u=>eqAct_same ⟨k,r,a⟩ u
 unfold acV at hea
 simp only at hea
 have hA1:=alloc_below w (.cells #[.int .i64 s.p,.int .i64 s.k,.int .i64 s.l,.slice a1 s.past.length c1,.int .i64 s.now.wires,.slice a2 s.now.edges.length c2,.slice a3 s.now.ins.length c3,.slice a4 s.now.outs.length c4,.slice a5 s.future.length c5,.int .i64 s.goal.wires,.slice a6 s.goal.edges.length c6,.slice a7 s.goal.ins.length c7,.slice a8 s.goal.outs.length c8] 44)
 have kS:=Bk.new w 44 #[.int .i64 s.p,.int .i64 s.k,.int .i64 s.l,.slice a1 s.past.length c1,.int .i64 s.now.wires,.slice a2 s.now.edges.length c2,.slice a3 s.now.ins.length c3,.slice a4 s.now.outs.length c4,.slice a5 s.future.length c5,.int .i64 s.goal.wires,.slice a6 s.goal.edges.length c6,.slice a7 s.goal.ins.length c7,.slice a8 s.goal.outs.length c8]
 have HSZ:=Lib.hid hsz
 have HTO:=Lib.hid hto
 have HS:=Lib.hid hS
 have HI:=Lib.hid hI
 have HE:=Lib.hid hE
 have HEA:=Lib.hid hea
 clear hsz hto hS hI hE hea hX hk h hpt ht hok hsp hao
 have hbn:(ok != ok)=false:=by simp
 have hTn:¬ (1048576:Int)<T.size:=by omega
 go_enter Tryz.func6,Tryz.ntmps6
 obtain ⟨iS,-,zS⟩:=kS.cell
 go_wp2_with fail
 generalize (w.alloc (.cells #[.int .i64 s.p,.int .i64 s.k,.int .i64 s.l,.slice a1 s.past.length c1,.int .i64 s.now.wires,.slice a2 s.now.edges.length c2,.slice a3 s.now.ins.length c3,.slice a4 s.now.outs.length c4,.slice a5 s.future.length c5,.int .i64 s.goal.wires,.slice a6 s.goal.edges.length c6,.slice a7 s.goal.ins.length c7,.slice a8 s.goal.outs.length c8] 44))=u0 at *
 refine (HSZ.out _ hA1).mono ?_
 rintro q w1 ⟨n1,rfl,hn1,hn1',hb1⟩
 clear iS zS
 replace kS:=kS.keep hb1
 have hB1:=hA1.trans (hb1.mono hA1.size)
 clear hb1 hA1
 obtain ⟨iS,-,zS⟩:=kS.cell
 by_cases hneg:n1<0
 ·go_wp2
  go_ret
  exact ⟨rfl,hB1⟩
 go_wp2_with fail
 refine (HTO.out _ hB1).mono ?_
 rintro q w2 ⟨vp2,ne2,ni2,no2,vf2,ge2,gi2,go2,rfl,hR2,hb2⟩
 clear iS zS
 go_wp2_with fail
 refine (HS.out _ _ _ _ _ _ _ _ _ hR2).mono ?_
 rintro q w3 ⟨x,rfl,hx,hb3⟩
 subst hx
 unfold acV
 simp only
 have hb13:=hb2.trans (hb3.mono hb2.size)
 have hA3:=alloc_below w3 (.cells #[.int .i64 k,.int .i64 r,.int .i64 a] 57)
 have k6:=Bk.new w3 57 #[.int .i64 k,.int .i64 r,.int .i64 a]
 have hb1u:=hb13.trans (hA3.mono hb13.size)
 replace kS:=kS.keep hb1u
 have hB3:=hB1.trans (hb1u.mono hB1.size)
 clear hb2 hb3 hb13 hA3 hb1u hR2 hB1
 obtain ⟨iS,-,zS⟩:=kS.cell
 go_wp2_with fail
 generalize (w3.alloc (.cells #[.int .i64 k,.int .i64 r,.int .i64 a] 57))=u3 at *
 generalize w3.heap.size=g6 at *
 refine (HTO.out _ hB3).mono ?_
 rintro q w4 ⟨vp4,ne4,ni4,no4,vf4,ge4,gi4,go4,rfl,hR4,hb4⟩
 obtain ⟨⟨b1,d1,rfl⟩,⟨⟨b2,d2,rfl⟩,⟨b3,d3,rfl⟩,b4,d4,rfl⟩,⟨b5,d5,rfl⟩,⟨b6,d6,rfl⟩,⟨b7,d7,rfl⟩,b8,d8,rfl⟩:=hR4.slices
 unfold snV
 clear iS zS
 have hA4:=alloc_below w4 (.cells #[.int .i64 s.p,.int .i64 s.k,.int .i64 s.l,.slice b1 s.past.length d1,.int .i64 s.now.wires,.slice b2 s.now.edges.length d2,.slice b3 s.now.ins.length d3,.slice b4 s.now.outs.length d4,.slice b5 s.future.length d5,.int .i64 s.goal.wires,.slice b6 s.goal.edges.length d6,.slice b7 s.goal.ins.length d7,.slice b8 s.goal.outs.length d8] 55)
 have k8:=Bk.new w4 55 #[.int .i64 s.p,.int .i64 s.k,.int .i64 s.l,.slice b1 s.past.length d1,.int .i64 s.now.wires,.slice b2 s.now.edges.length d2,.slice b3 s.now.ins.length d3,.slice b4 s.now.outs.length d4,.slice b5 s.future.length d5,.int .i64 s.goal.wires,.slice b6 s.goal.edges.length d6,.slice b7 s.goal.ins.length d7,.slice b8 s.goal.outs.length d8]
 have hb34:=hb4.trans (hA4.mono hb4.size)
 replace kS:=kS.keep hb34
 replace k6:=k6.keep hb34
 have hB4:=hB3.trans (hb34.mono hB3.size)
 replace hR4:=hR4.keep hA4
 clear hb4 hA4 hb34 hB3
 obtain ⟨i8,-,z8⟩:=k8.cell
 go_wp2_with fail
 generalize (w4.alloc (.cells #[.int .i64 s.p,.int .i64 s.k,.int .i64 s.l,.slice b1 s.past.length d1,.int .i64 s.now.wires,.slice b2 s.now.edges.length d2,.slice b3 s.now.ins.length d3,.slice b4 s.now.outs.length d4,.slice b5 s.future.length d5,.int .i64 s.goal.wires,.slice b6 s.goal.edges.length d6,.slice b7 s.goal.ins.length d7,.slice b8 s.goal.outs.length d8] 55))=u4 at *
 generalize w4.heap.size=g8 at *
 clear i8 z8
 refine (HI.out _ hB4 _ _ _ _ _ _ _ _ hR4).mono ?_
 rintro q w5 ⟨x,rfl,hx,hb5⟩
 subst hx
 unfold acV
 simp only
 have hA5:=alloc_below w5 (.cells #[.int .i64 k,.int .i64 r,.int .i64 a] 57)
 have k9:=Bk.new w5 57 #[.int .i64 k,.int .i64 r,.int .i64 a]
 have hb45:=hb5.trans (hA5.mono hb5.size)
 replace kS:=kS.keep hb45
 replace k6:=k6.keep hb45
 replace k8:=k8.keep hb45
 replace hR4:=hR4.keep hb45
 have hB5:=hB4.trans (hb45.mono hB4.size)
 have k6w:=k6
 clear hb5 hb45 hB4 hA5
 obtain ⟨i6,-,z6⟩:=k6.cell
 go_wp2_with fail
 generalize (w5.alloc (.cells #[.int .i64 k,.int .i64 r,.int .i64 a] 57))=u5 at *
 generalize w5.heap.size=g9 at *
 clear i6 z6
 refine (HEA.out _).mono ?_
 rintro q w6 ⟨rfl,hb6⟩
 replace kS:=kS.keep hb6
 replace k8:=k8.keep hb6
 replace hR4:=hR4.keep hb6
 have hB6:=hB5.trans (hb6.mono hB5.size)
 clear hb6 hB5 k6 k6w k9
 obtain ⟨iS,-,zS⟩:=kS.cell
 obtain ⟨iD,-,zD⟩:=k8.cell
 go_wp2_with fail
 have up7:∀ {w':World},Exc NoT w6.drew w' → Below w6.heap.size w6 w':=fun h=>(Below.refl w6.heap.size w6).drew.trans (h.toBelow.mono (by simp))
 refine region_acts (C:=Exc (NoT) _) 4 [0,1,2,3,4] (by kernel_rfl) (by kernel_rfl) (Exc.grows _ _) (Exc.refl _ _) ?_
 iterate 2 (apply x_st rfl rfl rfl;(focus intro u hc' hf';go_simp <;> rfl);intro K hK;go_simp;apply hK;clear hK K)
 refine x_call rfl rfl rfl (Exc.grows _ _) (Exc.refl _ _) 20 (fun K hK=>?_);apply Exists.intro;refine ⟨fun w' hw'=>?_,fun wa hwa hbwa=>?_⟩;(focus go_simp;rfl);refine (HTO.out _ (hB6.trans ((up7 hwa).mono hB6.size))).mono ?_;rintro e w8 ⟨vp8,ne8,ni8,no8,vf8,ge8,gi8,go8,rfl,hR8,hb8⟩;refine ⟨_,rfl,hb8,fun hx=>?_⟩;go_simp;apply hK;clear hK K
 refine x_call rfl rfl rfl (Exc.grows _ _) (hx) 23 (fun K hK=>?_);apply Exists.intro;refine ⟨fun w' hw'=>?_,fun wb hwb hbwb=>?_⟩;(focus go_simp;rfl);refine (HE.out _ _ _ _ _ _ _ _ _ _ _ _ _ _ _ _ _ (hR4.keep (up7 hwb)) (hR8.keep hbwb)).mono ?_;rintro e w9 ⟨rfl,hb9⟩;refine ⟨_,rfl,hb9,fun hx=>?_⟩;go_simp;apply hK;clear hK K
 iterate 1 (apply x_st rfl rfl rfl;(focus intro u hc' hf';go_simp <;> rfl);intro K hK;go_simp;apply hK;clear hK K)
 refine x_nil ?_
 have hb79:=up7 hx
 go_wp2
 go_ret
 exact ⟨rfl,hB6.trans (hb79.mono hB6.size)⟩
end Go.Proofs.YtbljmfcifljkaaaGreatDoor
