/-
  The law of ActText, walked. Own work.
-/
import Derived.Test.YtbljmfcifljkaaaGreatDoorVAV
import Derived.Test.YtbljmfcifljkaaaGreatDoorVSA
set_option linter.all false
set_option maxRecDepth 100000
set_option maxHeartbeats 8000000
namespace Go.Proofs.YtbljmfcifljkaaaGreatDoor
open Go.RowKit
set_option maxRecDepth 100000
set_option maxHeartbeats 8000000
def ToSnP (s:SnI) (w:World) (e:Ending) (w':World):Prop:=∃ vp ne ni no vf ge gi go,e=.returned (snV s vp ne ni no vf ge gi go)∧SnR w' vp ne ni no vf ge gi go s∧Below w.heap.size w w'
theorem lawAt_any (s:SnI) (vp ne ni no vf ge gi go:Value) (x:AcI) (w:World) (hpt:PrimeTab w) (ht:PowTab w) (h:SnR w vp ne ni no vf ge gi go s) (hok:SnOk s) :
  Calls Tryz.prog 5 #[snV s vp ne ni no vf ge gi go,acV x] w fun r w'=>r=.returned (.bool true)∧Below w.heap.size w w':=by
 have hsz:=fun (u:World) (hu:Below w.heap.size w u)=>szSession_any s vp ne ni no vf ge gi go 1048576 u (h.keep hu) hok (by omega) (by omega)
 have hto:=fun (u:World) (hu:Below w.heap.size w u)=>(toSession_any s vp ne ni no vf ge gi go u (h.keep hu) hok).mono (R':=ToSnP s u) fun _ _ hq=>hq
 have hta:=toAct_any x
 obtain ⟨k,r,a⟩:=x
 unfold snV at hsz hto
 unfold acV at hta
 obtain ⟨⟨a1,c1,rfl⟩,⟨⟨a2,c2,rfl⟩,⟨a3,c3,rfl⟩,a4,c4,rfl⟩,⟨a5,c5,rfl⟩,⟨a6,c6,rfl⟩,⟨a7,c7,rfl⟩,a8,c8,rfl⟩:=h.slices
 have hS:=fun (u:World) (vp ne ni no vf ge gi go:Value) (hR:SnR u vp ne ni no vf ge gi go s)=>actTextS_any s vp ne ni no vf ge gi go ⟨k,r,a⟩ u hR hok
 have hI:=fun (u:World) (hu:Below w.heap.size w u) (vp ne ni no vf ge gi go:Value) (hR:SnR u vp ne ni no vf ge gi go s)=>actTextI_any s vp ne ni no vf ge gi go ⟨k,r,a⟩ u (hpt.keep hu) (ht.keep hu) hR hok
 have hE:=fun (u:World) (vp ne ni no vf ge gi go vp' ne' ni' no' vf' ge' gi' go':Value) (h1:SnR u vp ne ni no vf ge gi go s) (h2:SnR u vp' ne' ni' no' vf' ge' gi' go' s)=>eqSession_same s vp ne ni no vf ge gi go vp' ne' ni' no' vf' ge' gi' go' u h1 h2 hok
 unfold acV at hS hI
 simp only at hta hS hI
 unfold snV acV
 simp only
 obtain ⟨T,hT⟩:∃ T,(acSay s ⟨k,r,a⟩).getD ⟨#[]⟩=T:=⟨_,rfl⟩
 obtain ⟨ok,hk⟩:∃ b,(acSay s ⟨k,r,a⟩).isSome=b:=⟨_,rfl⟩
 unfold AcSP at hS hI
 rw [hT,hk] at hS hI
 have hA1:=alloc_below w (.cells #[.int .i64 s.p,.int .i64 s.k,.int .i64 s.l,.slice a1 s.past.length c1,.int .i64 s.now.wires,.slice a2 s.now.edges.length c2,.slice a3 s.now.ins.length c3,.slice a4 s.now.outs.length c4,.slice a5 s.future.length c5,.int .i64 s.goal.wires,.slice a6 s.goal.edges.length c6,.slice a7 s.goal.ins.length c7,.slice a8 s.goal.outs.length c8] 44)
 have hA2:=alloc_below (w.alloc (.cells #[.int .i64 s.p,.int .i64 s.k,.int .i64 s.l,.slice a1 s.past.length c1,.int .i64 s.now.wires,.slice a2 s.now.edges.length c2,.slice a3 s.now.ins.length c3,.slice a4 s.now.outs.length c4,.slice a5 s.future.length c5,.int .i64 s.goal.wires,.slice a6 s.goal.edges.length c6,.slice a7 s.goal.ins.length c7,.slice a8 s.goal.outs.length c8] 44)) (.cells #[.int .i64 k,.int .i64 r,.int .i64 a] 46)
 have hB:=hA1.trans (hA2.mono hA1.size)
 have kS:=(Bk.new w 44 #[.int .i64 s.p,.int .i64 s.k,.int .i64 s.l,.slice a1 s.past.length c1,.int .i64 s.now.wires,.slice a2 s.now.edges.length c2,.slice a3 s.now.ins.length c3,.slice a4 s.now.outs.length c4,.slice a5 s.future.length c5,.int .i64 s.goal.wires,.slice a6 s.goal.edges.length c6,.slice a7 s.goal.ins.length c7,.slice a8 s.goal.outs.length c8]).keep hA2
 have kX:=Bk.new (w.alloc (.cells #[.int .i64 s.p,.int .i64 s.k,.int .i64 s.l,.slice a1 s.past.length c1,.int .i64 s.now.wires,.slice a2 s.now.edges.length c2,.slice a3 s.now.ins.length c3,.slice a4 s.now.outs.length c4,.slice a5 s.future.length c5,.int .i64 s.goal.wires,.slice a6 s.goal.edges.length c6,.slice a7 s.goal.ins.length c7,.slice a8 s.goal.outs.length c8] 44)) 46 #[.int .i64 k,.int .i64 r,.int .i64 a]
 simp only [World.size_alloc] at kX
 have HSZ:=Lib.hid hsz
 have HTO:=Lib.hid hto
 have HTA:=Lib.hid hta
 have HS:=Lib.hid hS
 have HI:=Lib.hid hI
 have HE:=Lib.hid hE
 clear hsz hto hta hS hI hE hA1 hA2 hT hk h hpt ht hok
 have hbn:(ok != ok)=false:=by simp
 have hsn:(T.toList == T.toList)=true:=by simp
 go_enter Tryz.func5,Tryz.ntmps5
 obtain ⟨iX,-,zX⟩:=kX.cell
 obtain ⟨iS,-,zS⟩:=kS.cell
 go_wp2_with fail
 generalize ((w.alloc (.cells #[.int .i64 s.p,.int .i64 s.k,.int .i64 s.l,.slice a1 s.past.length c1,.int .i64 s.now.wires,.slice a2 s.now.edges.length c2,.slice a3 s.now.ins.length c3,.slice a4 s.now.outs.length c4,.slice a5 s.future.length c5,.int .i64 s.goal.wires,.slice a6 s.goal.edges.length c6,.slice a7 s.goal.ins.length c7,.slice a8 s.goal.outs.length c8] 44)).alloc (.cells #[.int .i64 k,.int .i64 r,.int .i64 a] 46))=u0 at *
 refine (HSZ.out _ hB).mono ?_
 rintro q w1 ⟨n1,rfl,hn1,hn1',hb1⟩
 clear iX zX iS zS
 replace kX:=kX.keep hb1
 replace kS:=kS.keep hb1
 have hB1:=hB.trans (hb1.mono hB.size)
 clear hb1 hB
 obtain ⟨iX,-,zX⟩:=kX.cell
 obtain ⟨iS,-,zS⟩:=kS.cell
 by_cases hneg:n1<0
 ·go_wp2
  go_ret
  exact ⟨rfl,hB1⟩
 go_wp2_with fail
 have up1:∀ {w':World},Exc NoT w1.drew w' → Below w1.heap.size w1 w':=fun h=>(Below.refl w1.heap.size w1).drew.trans (h.toBelow.mono (by simp))
 refine region_acts (C:=Exc (NoT) _) 4 [0,1,2,3,4,5,6,7,8,9] (by kernel_rfl) (by kernel_rfl) (Exc.grows _ _) (Exc.refl _ _) ?_
 iterate 1 (apply x_st rfl rfl rfl;(focus intro u hc' hf';go_simp <;> rfl);intro K hK;go_simp;apply hK;clear hK K)
 refine x_call rfl rfl rfl (Exc.grows _ _) (Exc.refl _ _) 20 (fun K hK=>?_);apply Exists.intro;refine ⟨fun w' hw'=>?_,fun wa hwa hbwa=>?_⟩;(focus go_simp;rfl);refine (HTO.out _ (hB1.trans ((up1 hwa).mono hB1.size))).mono ?_;rintro e w2 ⟨vp2,ne2,ni2,no2,vf2,ge2,gi2,go2,rfl,hR2,hb2⟩;refine ⟨_,rfl,hb2,fun hx=>?_⟩;go_simp;apply hK;clear hK K
 iterate 1 (apply x_st rfl rfl rfl;(focus intro u hc' hf';go_simp <;> rfl);intro K hK;go_simp;apply hK;clear hK K)
 refine x_call rfl rfl rfl (Exc.grows _ _) (hx) 21 (fun K hK=>?_);apply Exists.intro;refine ⟨fun w' hw'=>?_,fun wb hwb hbwb=>?_⟩;(focus go_simp;rfl);refine (HTA.out _).mono ?_;rintro e w3 ⟨rfl,hb3⟩;refine ⟨_,rfl,hb3,fun hx=>?_⟩;go_simp;apply hK;clear hK K
 refine x_call rfl rfl rfl (Exc.grows _ _) (hx) 19 (fun K hK=>?_);apply Exists.intro;refine ⟨fun w' hw'=>?_,fun wc hwc hbwc=>?_⟩;(focus go_simp;rfl);refine (HS.out _ _ _ _ _ _ _ _ _ (hR2.keep (hbwb.trans ((hb3.trans (hbwc.mono hb3.size)).mono hbwb.size)))).mono ?_;rintro e w4 ⟨rfl,hb4⟩;refine ⟨_,rfl,hb4,fun hx=>?_⟩;go_simp;apply hK;clear hK K
 iterate 5 (apply x_st rfl rfl rfl;(focus intro u hc' hf';go_simp <;> rfl);intro K hK;go_simp;apply hK;clear hK K)
 refine x_nil ?_
 have hb14:=up1 hx
 clear iX zX iS zS hb2 hb3 hb4 hR2 hx hwa hwb hwc hbwa hbwb hbwc up1
 replace kX:=kX.keep hb14
 replace kS:=kS.keep hb14
 have hB4:=hB1.trans (hb14.mono hB1.size)
 clear hb14 hB1
 obtain ⟨iX,-,zX⟩:=kX.cell
 obtain ⟨iS,-,zS⟩:=kS.cell
 go_wp2_with fail
 refine (HTO.out _ hB4).mono ?_
 rintro q w5 ⟨vp5,ne5,ni5,no5,vf5,ge5,gi5,go5,rfl,hR5,hb5⟩
 obtain ⟨⟨b1,d1,rfl⟩,⟨⟨b2,d2,rfl⟩,⟨b3,d3,rfl⟩,b4,d4,rfl⟩,⟨b5,d5,rfl⟩,⟨b6,d6,rfl⟩,⟨b7,d7,rfl⟩,b8,d8,rfl⟩:=hR5.slices
 unfold snV
 clear iX zX iS zS
 have hA5:=alloc_below w5 (.cells #[.int .i64 s.p,.int .i64 s.k,.int .i64 s.l,.slice b1 s.past.length d1,.int .i64 s.now.wires,.slice b2 s.now.edges.length d2,.slice b3 s.now.ins.length d3,.slice b4 s.now.outs.length d4,.slice b5 s.future.length d5,.int .i64 s.goal.wires,.slice b6 s.goal.edges.length d6,.slice b7 s.goal.ins.length d7,.slice b8 s.goal.outs.length d8] 55)
 have kD:=Bk.new w5 55 #[.int .i64 s.p,.int .i64 s.k,.int .i64 s.l,.slice b1 s.past.length d1,.int .i64 s.now.wires,.slice b2 s.now.edges.length d2,.slice b3 s.now.ins.length d3,.slice b4 s.now.outs.length d4,.slice b5 s.future.length d5,.int .i64 s.goal.wires,.slice b6 s.goal.edges.length d6,.slice b7 s.goal.ins.length d7,.slice b8 s.goal.outs.length d8]
 replace kX:=(kX.keep hb5).keep hA5
 replace kS:=(kS.keep hb5).keep hA5
 have hB5:=(hB4.trans (hb5.mono hB4.size)).trans (hA5.mono ((hB4.trans (hb5.mono hB4.size)).size))
 replace hR5:=hR5.keep hA5
 clear hb5 hA5 hB4
 obtain ⟨iX,-,zX⟩:=kX.cell
 obtain ⟨iS,-,zS⟩:=kS.cell
 go_wp2_with fail
 generalize (w5.alloc (.cells #[.int .i64 s.p,.int .i64 s.k,.int .i64 s.l,.slice b1 s.past.length d1,.int .i64 s.now.wires,.slice b2 s.now.edges.length d2,.slice b3 s.now.ins.length d3,.slice b4 s.now.outs.length d4,.slice b5 s.future.length d5,.int .i64 s.goal.wires,.slice b6 s.goal.edges.length d6,.slice b7 s.goal.ins.length d7,.slice b8 s.goal.outs.length d8] 55))=u5 at *
 generalize w5.heap.size=g5 at *
 obtain ⟨iD,-,zD⟩:=kD.cell
 have up5:∀ {w':World},Exc NoT u5.drew w' → Below u5.heap.size u5 w':=fun h=>(Below.refl u5.heap.size u5).drew.trans (h.toBelow.mono (by simp))
 refine region_acts (C:=Exc (NoT) _) 4 [0,1,2,3,4,5,6,7,8] (by kernel_rfl) (by kernel_rfl) (Exc.grows _ _) (Exc.refl _ _) ?_
 iterate 2 (apply x_st rfl rfl rfl;(focus intro u hc' hf';go_simp <;> rfl);intro K hK;go_simp;apply hK;clear hK K)
 refine x_call rfl rfl rfl (Exc.grows _ _) (Exc.refl _ _) 21 (fun K hK=>?_);apply Exists.intro;refine ⟨fun w' hw'=>?_,fun wa hwa hbwa=>?_⟩;(focus go_simp;rfl);refine (HTA.out _).mono ?_;rintro e w6 ⟨rfl,hb6⟩;refine ⟨_,rfl,hb6,fun hx=>?_⟩;go_simp;apply hK;clear hK K
 refine x_call rfl rfl rfl (Exc.grows _ _) (hx) 22 (fun K hK=>?_);apply Exists.intro;refine ⟨fun w' hw'=>?_,fun wb hwb hbwb=>?_⟩;(focus go_simp;rfl);refine (HI.out _ (hB5.trans ((up5 hwb).mono hB5.size)) _ _ _ _ _ _ _ _ (hR5.keep (up5 hwb))).mono ?_;rintro e w7 ⟨rfl,hb7⟩;refine ⟨_,rfl,hb7,fun hx=>?_⟩;go_simp;apply hK;clear hK K
 iterate 5 (apply x_st rfl rfl rfl;(focus intro u hc' hf';go_simp <;> rfl);intro K hK;go_simp;apply hK;clear hK K)
 refine x_nil ?_
 have hb57:=up5 hx
 clear iX zX iS zS iD zD hb6 hb7 hx hwa hwb hbwa hbwb up5
 replace kX:=kX.keep hb57
 replace kS:=kS.keep hb57
 replace kD:=kD.keep hb57
 replace hR5:=hR5.keep hb57
 have hB7:=hB5.trans (hb57.mono hB5.size)
 clear hb57 hB5
 obtain ⟨iX,-,zX⟩:=kX.cell
 obtain ⟨iS,-,zS⟩:=kS.cell
 obtain ⟨iD,-,zD⟩:=kD.cell
 go_wp2_with fail
 have up7:∀ {w':World},Exc NoT w7.drew w' → Below w7.heap.size w7 w':=fun h=>(Below.refl w7.heap.size w7).drew.trans (h.toBelow.mono (by simp))
 refine region_acts (C:=Exc (NoT) _) 4 [0,1,2,3,4] (by kernel_rfl) (by kernel_rfl) (Exc.grows _ _) (Exc.refl _ _) ?_
 iterate 2 (apply x_st rfl rfl rfl;(focus intro u hc' hf';go_simp <;> rfl);intro K hK;go_simp;apply hK;clear hK K)
 refine x_call rfl rfl rfl (Exc.grows _ _) (Exc.refl _ _) 20 (fun K hK=>?_);apply Exists.intro;refine ⟨fun w' hw'=>?_,fun wa hwa hbwa=>?_⟩;(focus go_simp;rfl);refine (HTO.out _ (hB7.trans ((up7 hwa).mono hB7.size))).mono ?_;rintro e w8 ⟨vp8,ne8,ni8,no8,vf8,ge8,gi8,go8,rfl,hR8,hb8⟩;refine ⟨_,rfl,hb8,fun hx=>?_⟩;go_simp;apply hK;clear hK K
 refine x_call rfl rfl rfl (Exc.grows _ _) (hx) 23 (fun K hK=>?_);apply Exists.intro;refine ⟨fun w' hw'=>?_,fun wb hwb hbwb=>?_⟩;(focus go_simp;rfl);refine (HE.out _ _ _ _ _ _ _ _ _ _ _ _ _ _ _ _ _ (hR5.keep (up7 hwb)) (hR8.keep hbwb)).mono ?_;rintro e w9 ⟨rfl,hb9⟩;refine ⟨_,rfl,hb9,fun hx=>?_⟩;go_simp;apply hK;clear hK K
 iterate 1 (apply x_st rfl rfl rfl;(focus intro u hc' hf';go_simp <;> rfl);intro K hK;go_simp;apply hK;clear hK K)
 refine x_nil ?_
 have hb79:=up7 hx
 go_wp2
 go_ret
 exact ⟨rfl,hB7.trans (hb79.mono hB7.size)⟩
end Go.Proofs.YtbljmfcifljkaaaGreatDoor
