/-
  The law of WriteEntry, walked. Own work.
-/
import Derived.Test.YtldhpaflmnlcaaaGreatDoorQWeW
import Derived.Test.YtldhpaflmnlcaaaGreatDoorQC
set_option linter.all false
set_option maxRecDepth 100000
set_option maxHeartbeats 8000000
namespace Go.Proofs.YtldhpaflmnlcaaaGreatDoor
open Go.RowKit
def WrQ (D0 D1:ByteArray) (ok:Bool) (w:World) (r:Ending) (w':World):Prop:=r=.returned (.tuple #[.agg #[.string D0,.string D1],.bool ok])∧Below w.heap.size w w'
theorem dbox_start {w W:World} {s t:ByteArray} {e:En} {ve:Value} (hb:Below (w.heap.size+1+1) ((w.alloc (.cells #[.string s,.string t] 70)).alloc (.cells #[.int .i64 e.kind,.string e.name,.string e.to,ve] 49)) W):DBox w s t e ve (w.heap.size+1) W:=by
 have h:DBox w s t e ve (w.heap.size+1) ((w.alloc (.cells #[.string s,.string t] 70)).alloc (.cells #[.int .i64 e.kind,.string e.name,.string e.to,ve] 49)):=by
  refine ⟨?_,?_,?_,?_,?_,?_,by omega,(alloc_below _ _).alloc (by simp) _⟩ <;> go_simp
 exact h.keep (hb.mono (by simp))
theorem lawWe_any (s t:ByteArray) (ve:Value) (e:En) (w:World) (ht:CutTab w) (hp:PowTab w) (hs:s.size≤1048576) (hs2:t.size≤1048576) (hve:NdsAt w ve e.body) (he:EnOk e) :
  Calls Tryz.prog 15 #[.agg #[.string s,.string t],.agg #[.int .i64 e.kind,.string e.name,.string e.to,ve]] w fun r w'=>r=.returned (.bool true)∧Below w.heap.size w w':=by
 obtain ⟨ab,cb,rfl⟩:=hve.slice
 have hEb:e.body.length≤1048576:=he.2.2.2
 have hspec:∀ (w2:World) (v2:Value),NdsAt w2 v2 e.body → Calls Tryz.prog 62 #[.agg #[.string s,.string t],.agg #[.int .i64 e.kind,.string e.name,.string e.to,v2]] w2 (WrP s (wrO s t e) w2):=fun w2 v2 h2=>specWrite_any s t v2 e w2 hs hs2 h2 he
 have himpl:∀ (w2:World) (v2:Value),CutTab w2 → PowTab w2 → NdsAt w2 v2 e.body → Calls Tryz.prog 63 #[.agg #[.string s,.string t],.agg #[.int .i64 e.kind,.string e.name,.string e.to,v2]] w2 (WrP s (wrO s t e) w2):=fun w2 v2 h3 h4 h2=>implWrite_any s t v2 e w2 h3 h4 hs hs2 h2 he
 obtain ⟨o,ho⟩:∃ o,wrO s t e=o:=⟨_,rfl⟩
 rw [ho] at hspec himpl
 obtain ⟨D0,hD0⟩:∃ D0,(if o.isSome then s else ⟨#[]⟩)=D0:=⟨_,rfl⟩
 obtain ⟨D1,hD1⟩:∃ D1,o.getD ⟨#[]⟩=D1:=⟨_,rfl⟩
 obtain ⟨ok,hok⟩:∃ ok,o.isSome=ok:=⟨_,rfl⟩
 have hP:∀ w2:World,WrP s o w2=WrQ D0 D1 ok w2:=fun w2=>by funext r w';unfold WrP WrQ;rw [hD0,hD1,hok]
 simp only [hP] at hspec himpl
 have HS:=Lib.hid hspec
 have HI:=Lib.hid himpl
 have hbne:=bne_selfD ok
 clear hspec himpl hP hD0 hD1 hok ho
 go_enter Tryz.func15,Tryz.ntmps15
 go_wp2_with fail
 refine (szDisk_any s t _ _ hs hs2 (by omega) (by omega)).mono ?_
 rintro r w1 ⟨n1,rfl,hn1,hn1',hb1⟩
 have hx1:=dbox_start (hb1.mono (by simp))
 obtain ⟨be,hbe⟩:∃ be,be=w.heap.size+1:=⟨_,rfl⟩
 rw [← hbe] at hx1 ⊢
 clear hbe
 obtain ⟨d0,d1,e0,e1,e2,e3,_,bel⟩:=id hx1
 obtain ⟨z0,z1,z3,z6⟩:=hx1.zs
 by_cases hneg:n1<0
 ·go_wp2
  go_ret
  exact ⟨rfl,bel⟩
 have hnn:¬ n1<0:=hneg
 go_wp2_with fail
 refine (szEntry_any _ e _ _ (hve.keep bel) he (by omega) hn1').mono ?_
 rintro r w2 ⟨n2,rfl,hn2,hn2',hb2⟩
 have hx2:=hx1.keep hb2
 clear d0 d1 e0 e1 e2 e3 bel z0 z1 z3 z6
 obtain ⟨d0,d1,e0,e1,e2,e3,_,bel⟩:=id hx2
 obtain ⟨z0,z1,z3,z6⟩:=hx2.zs
 by_cases hneg2:n2<0
 ·go_wp2
  go_ret
  exact ⟨rfl,bel⟩
 have hnn2:¬ n2<0:=hneg2
 have hy2:=hve.keep bel
 go_wp2_with fail
 have up2:∀ {w':World},Exc NoT w2.drew w' → Below w2.heap.size w2 w':=fun h=>(Below.refl w2.heap.size w2).drew.trans (h.toBelow.mono (by simp))
 refine region_acts (C:=Exc (NoT) _) 4 [0,1,2,3,4,5,6,7,8,9,10] (by kernel_rfl) (by kernel_rfl) (Exc.grows _ _) (Exc.refl _ _) ?_
 iterate 1 (apply x_st rfl rfl rfl;(focus intro u hc' hf';go_simp <;> rfl);intro K hK;go_simp;apply hK;clear hK K)
 refine x_call rfl rfl rfl (Exc.grows _ _) (Exc.refl _ _) 53 (fun K hK=>?_);apply Exists.intro;refine ⟨fun w' hw'=>?_,fun wa hwa hbwa=>?_⟩;(focus go_simp;rfl);refine (toDisk_any s t _).mono ?_;rintro e w3 ⟨rfl,hb3⟩;refine ⟨_,rfl,hb3,fun hx=>?_⟩;go_simp;apply hK;clear hK K
 iterate 1 (apply x_st rfl rfl rfl;(focus intro u hc' hf';go_simp <;> rfl);intro K hK;go_simp;apply hK;clear hK K)
 refine x_call rfl rfl rfl (Exc.grows _ _) (hx) 35 (fun K hK=>?_);apply Exists.intro;refine ⟨fun w' hw'=>?_,fun wb hwb hbwb=>?_⟩;(focus go_simp;rfl);refine (toEntry_any _ e _ (hy2.keep (up2 hwb)) hEb).mono ?_;rintro e w4 ⟨v4,rfl,ho4,hb4⟩;refine ⟨_,rfl,hb4,fun hx=>?_⟩;go_simp;apply hK;clear hK K
 refine x_call rfl rfl rfl (Exc.grows _ _) (hx) 62 (fun K hK=>?_);apply Exists.intro;refine ⟨fun w' hw'=>?_,fun wc hwc hbwc=>?_⟩;(focus go_simp;rfl);refine (HS.out _ _ (ho4.at.keep hbwc)).mono ?_;rintro e w5 ⟨rfl,hb5⟩;refine ⟨_,rfl,hb5,fun hx=>?_⟩;go_simp;apply hK;clear hK K
 iterate 3 (apply x_st rfl rfl rfl;(focus intro u hc' hf';go_simp <;> rfl);intro K hK;go_simp;apply hK;clear hK K)
 refine x_make rfl rfl rfl (Exc.grows _ _) hx (fun b=>.pointer (some ⟨b,0,none⟩)) (fun K hK=>?_)
 apply Exists.intro
 refine ⟨fun w' hw'=>?_,fun bA w7 hw7 hb7 hbo hNb hnb=>?_⟩
 ·go_simp
  rfl
 go_simp
 refine hK _ _ _ ?_
 clear hK K
 refine x_do rfl rfl rfl (Exc.grows _ _) hw7 (fun K hK=>?_)
 intro w8 hw8 hb8
 obtain ⟨m0,m1,m2⟩:=made_cell ((hb8.block bA (made_cell hbo).2.2).trans hbo)
 refine ⟨(w8.setCell ⟨bA,0,none⟩ (.string D0)).setCell ⟨bA,1,none⟩ (.string D1),?_,⟨exc_set (exc_set hw8 (.inl hNb) _) (.inl hNb) _,by simp,fun j _ hj _=>by rw [Below.heap_setCell _ _ _ _ (fun h=>hj (by simp [h])),Below.heap_setCell _ _ _ _ (fun h=>hj (by simp [h]))]⟩,?_⟩
 ·go_simp
 go_simp
 refine hK _ _ _ ?_
 clear hK K
 iterate 1 (apply x_st rfl rfl rfl;(focus intro u hc' hf';go_simp <;> rfl);intro K hK;go_simp;apply hK;clear hK K)
 refine x_nil ?_
 have hbb:w2.heap.size≤bA:=by simpa using hNb
 generalize hW:(w8.setCell ⟨bA,0,none⟩ (.string D0)).setCell ⟨bA,1,none⟩ (.string D1)=W
 have q0:W.cell? ⟨bA,0,none⟩=some (.string D0):=by rw [← hW];clear hW;go_simp
 have q1:W.cell? ⟨bA,1,none⟩=some (.string D1):=by rw [← hW];clear hW;go_simp
 have hx5:=hx2.keep (W':=W) (by rw [← hW];exact (((up2 hw8).setCell (by simpa using hbb) _).setCell (by simpa using hbb) _))
 clear d0 d1 e0 e1 e2 e3 bel z0 z1 z3 z6 hx2 hW m0 m1 m2 hw8 hb8 hw7 hb7 hbo hNb hnb hx hb3 hb4 hb5 hwa hwb hwc hbwa hbwb hbwc ho4 up2
 obtain ⟨d0,d1,e0,e1,e2,e3,_,bel⟩:=id hx5
 obtain ⟨z0,z1,z3,z6⟩:=hx5.zs
 have qz:=cell_lt q0
 go_wp2_with fail
 refine (toEntry_any _ e _ (hve.keep bel) hEb).mono ?_
 rintro r w9 ⟨v9,rfl,ho9,hb9⟩
 obtain ⟨a9,c9,rfl⟩:=ho9.slice
 go_wp2_with fail
 have hx9:=hx5.keep (hb9.trans (alloc_below _ (.cells #[.int .i64 e.kind,.string e.name,.string e.to,.slice a9 e.body.length c9] 54) |>.mono hb9.size))
 have hat9:=ho9.at.keep (alloc_below _ (.cells #[.int .i64 e.kind,.string e.name,.string e.to,.slice a9 e.body.length c9] 54))
 have p0:=cell_keep (hb9.trans (alloc_below _ (.cells #[.int .i64 e.kind,.string e.name,.string e.to,.slice a9 e.body.length c9] 54) |>.mono hb9.size)) q0
 have p1:=cell_keep (hb9.trans (alloc_below _ (.cells #[.int .i64 e.kind,.string e.name,.string e.to,.slice a9 e.body.length c9] 54) |>.mono hb9.size)) q1
 generalize hX:w9.alloc (.cells #[.int .i64 e.kind,.string e.name,.string e.to,.slice a9 e.body.length c9] 54)=X at hx9 hat9 p0 p1 ⊢
 have f0:X.cell? ⟨w9.heap.size,0,none⟩=some (.int .i64 e.kind):=by rw [← hX];clear hX;go_simp
 have f1:X.cell? ⟨w9.heap.size,1,none⟩=some (.string e.name):=by rw [← hX];clear hX;go_simp
 have f2:X.cell? ⟨w9.heap.size,2,none⟩=some (.string e.to):=by rw [← hX];clear hX;go_simp
 have f3:X.cell? ⟨w9.heap.size,3,none⟩=some (.slice a9 e.body.length c9):=by rw [← hX];clear hX;go_simp
 obtain ⟨bx,hbx⟩:∃ bx,bx=w9.heap.size:=⟨_,rfl⟩
 rw [← hbx] at f0 f1 f2 f3 ⊢
 clear hX hbx d0 d1 e0 e1 e2 e3 bel z0 z1 z3 z6 q0 q1 qz hb9 ho9
 obtain ⟨d0,d1,e0,e1,e2,e3,_,bel⟩:=id hx9
 obtain ⟨z0,z1,z3,z6⟩:=hx9.zs
 have fz:=cell_lt f0
 have pz:=cell_lt p0
 have up3:∀ {w':World},Exc NoT X.drew w' → Below X.heap.size X w':=fun h=>(Below.refl X.heap.size X).drew.trans (h.toBelow.mono (by simp))
 refine region_acts (C:=Exc (NoT) _) 4 [0,1,2,3,4,5,6,7,8,9] (by kernel_rfl) (by kernel_rfl) (Exc.grows _ _) (Exc.refl _ _) ?_
 iterate 1 (apply x_st rfl rfl rfl;(focus intro u hc' hf';go_simp <;> rfl);intro K hK;go_simp;apply hK;clear hK K)
 refine x_call rfl rfl rfl (Exc.grows _ _) (Exc.refl _ _) 53 (fun K hK=>?_);apply Exists.intro;refine ⟨fun w' hw'=>?_,fun wa hwa hbwa=>?_⟩;(focus go_simp;rfl);refine (toDisk_any s t _).mono ?_;rintro e w3 ⟨rfl,hb3⟩;refine ⟨_,rfl,hb3,fun hx=>?_⟩;go_simp;apply hK;clear hK K
 iterate 1 (apply x_st rfl rfl rfl;(focus intro u hc' hf';go_simp <;> rfl);intro K hK;go_simp;apply hK;clear hK K)
 refine x_call rfl rfl rfl (Exc.grows _ _) (hx) 63 (fun K hK=>?_);apply Exists.intro;refine ⟨fun w' hw'=>?_,fun wb hwb hbwb=>?_⟩;(focus go_simp;rfl);refine (HI.out _ _ (ht.keep (bel.trans ((up3 hwb).mono bel.size))) (hp.keep (bel.trans ((up3 hwb).mono bel.size))) (hat9.keep (up3 hwb))).mono ?_;rintro e w5 ⟨rfl,hb5⟩;refine ⟨_,rfl,hb5,fun hx=>?_⟩;go_simp;apply hK;clear hK K
 iterate 3 (apply x_st rfl rfl rfl;(focus intro u hc' hf';go_simp <;> rfl);intro K hK;go_simp;apply hK;clear hK K)
 refine x_make rfl rfl rfl (Exc.grows _ _) hx (fun b=>.pointer (some ⟨b,0,none⟩)) (fun K hK=>?_)
 apply Exists.intro
 refine ⟨fun w' hw'=>?_,fun bB w7 hw7 hb7 hbo hNb hnb=>?_⟩
 ·go_simp
  rfl
 go_simp
 refine hK _ _ _ ?_
 clear hK K
 refine x_do rfl rfl rfl (Exc.grows _ _) hw7 (fun K hK=>?_)
 intro w8 hw8 hb8
 obtain ⟨m0,m1,m2⟩:=made_cell ((hb8.block bB (made_cell hbo).2.2).trans hbo)
 refine ⟨(w8.setCell ⟨bB,0,none⟩ (.string D0)).setCell ⟨bB,1,none⟩ (.string D1),?_,⟨exc_set (exc_set hw8 (.inl hNb) _) (.inl hNb) _,by simp,fun j _ hj _=>by rw [Below.heap_setCell _ _ _ _ (fun h=>hj (by simp [h])),Below.heap_setCell _ _ _ _ (fun h=>hj (by simp [h]))]⟩,?_⟩
 ·go_simp
 go_simp
 refine hK _ _ _ ?_
 clear hK K
 iterate 1 (apply x_st rfl rfl rfl;(focus intro u hc' hf';go_simp <;> rfl);intro K hK;go_simp;apply hK;clear hK K)
 refine x_nil ?_
 have hbb:X.heap.size≤bB:=by simpa using hNb
 generalize hW:(w8.setCell ⟨bB,0,none⟩ (.string D0)).setCell ⟨bB,1,none⟩ (.string D1)=Y
 have q0:Y.cell? ⟨bB,0,none⟩=some (.string D0):=by rw [← hW];clear hW;go_simp
 have q1:Y.cell? ⟨bB,1,none⟩=some (.string D1):=by rw [← hW];clear hW;go_simp
 have hXY:Below X.heap.size X Y:=by rw [← hW];exact (((up3 hw8).setCell (by simpa using hbb) _).setCell (by simpa using hbb) _)
 clear hW m0 m1 m2 hw8 hb8 hw7 hb7 hbo hNb hnb hx hb3 hb5 hwa hwb hbwa hbwb up3
 have r0:=cell_keep hXY p0
 have r1:=cell_keep hXY p1
 have rz:=cell_lt r0
 have qz:=cell_lt q0
 go_wp2_with fail
 refine (eqDisk_any D0 D1 _).mono ?_
 rintro r w12 ⟨rfl,hb12⟩
 have hX12:=hXY.trans (hb12.mono hXY.size)
 have hxA:=hx9.keep hX12
 have hatA:=hat9.keep hX12
 have g0:=cell_keep hX12 f0
 have g1:=cell_keep hX12 f1
 have g2:=cell_keep hX12 f2
 have g3:=cell_keep hX12 f3
 have gz:=cell_lt g0
 clear d0 d1 e0 e1 e2 e3 bel z0 z1 z3 z6 p0 p1 pz q0 q1 qz r0 r1 rz f0 f1 f2 f3 fz hb12
 obtain ⟨d0,d1,e0,e1,e2,e3,_,bel⟩:=id hxA
 obtain ⟨z0,z1,z3,z6⟩:=hxA.zs
 have hyA:=hve.keep bel
 go_wp2_with fail
 have up4:∀ {w':World},Exc NoT w12.drew w' → Below w12.heap.size w12 w':=fun h=>(Below.refl w12.heap.size w12).drew.trans (h.toBelow.mono (by simp))
 refine region_acts (C:=Exc (NoT) _) 4 [0,1,2,3,4] (by kernel_rfl) (by kernel_rfl) (Exc.grows _ _) (Exc.refl _ _) ?_
 iterate 2 (apply x_st rfl rfl rfl;(focus intro u hc' hf';go_simp <;> rfl);intro K hK;go_simp;apply hK;clear hK K)
 refine x_call rfl rfl rfl (Exc.grows _ _) (Exc.refl _ _) 35 (fun K hK=>?_);apply Exists.intro;refine ⟨fun w' hw'=>?_,fun wa hwa hbwa=>?_⟩;(focus go_simp;rfl);refine (toEntry_any _ e _ (hyA.keep (up4 hwa)) hEb).mono ?_;rintro e w13 ⟨v13,rfl,ho13,hb13⟩;refine ⟨_,rfl,hb13,fun hx=>?_⟩;go_simp;apply hK;clear hK K
 refine x_call rfl rfl rfl (Exc.grows _ _) (hx) 37 (fun K hK=>?_);apply Exists.intro;refine ⟨fun w' hw'=>?_,fun wb hwb hbwb=>?_⟩;(focus go_simp;rfl);refine (eqEntry_any _ _ e e _ (hatA.keep (up4 hwb)) (ho13.at.keep hbwb) hEb hEb).mono ?_;rintro e w14 ⟨rfl,hb14⟩;refine ⟨_,rfl,hb14,fun hx=>?_⟩;go_simp;apply hK;clear hK K
 try rw [show decide (e=e)=true by simp]
 iterate 1 (apply x_st rfl rfl rfl;(focus intro u hc' hf';go_simp <;> rfl);intro K hK;go_simp;apply hK;clear hK K)
 refine x_nil ?_
 have hu14:=up4 hx
 go_wp2
 go_ret
 exact ⟨rfl,bel.trans (hu14.mono bel.size)⟩
end Go.Proofs.YtldhpaflmnlcaaaGreatDoor
