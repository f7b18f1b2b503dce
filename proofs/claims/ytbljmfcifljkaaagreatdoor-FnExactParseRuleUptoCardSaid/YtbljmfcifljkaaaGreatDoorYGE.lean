/-
  The program's beside. Own work.
-/
import Derived.Test.YtbljmfcifljkaaaGreatDoorYGD
import Derived.Test.YtbljmfcifljkaaaGreatDoorYGC
set_option linter.all false
set_option maxRecDepth 100000
set_option maxHeartbeats 8000000
namespace Go.Proofs.YtbljmfcifljkaaaGreatDoor
open Go.RowKit
set_option maxRecDepth 100000
set_option maxHeartbeats 8000000
def GrMq (g:GrI) (w:World) (e:Ending) (w':World):Prop:=∃ a1 c1 a2 c2 a3 c3,e=.returned (.agg #[.int .i64 g.wires,.slice a1 g.edges.length c1,.slice a2 g.ins.length c2,.slice a3 g.outs.length c3]) ∧
  GrO w' w.heap.size (.slice a1 g.edges.length c1) (.slice a2 g.ins.length c2) (.slice a3 g.outs.length c3) g∧Below w.heap.size w w'
theorem movedQ_any (g:GrI) (ve vi vo vt:Value) (tz:List Int) (cnt:Int) (w:World) (hR:GrR w ve vi vo g) (hok:GrB g) (ht:IntsAt w vt tz) (htl:tz.length≤1000) (hin:inTab tz g.places) :
  Calls Tryz.prog 295 #[.agg #[.int .i64 g.wires,ve,vi,vo],.int .i64 cnt,vt] w (GrMq (mvI g cnt tz) w):=(moved_any g ve vi vo vt tz cnt w hR hok ht htl hin).mono fun _ _ h=>h.k.q
theorem copyQ_any (A:Nat) (E:List EdI) (I O:List Int) (ve vi vo vt:Value) (w:World) (hR:GrR w ve vi vo ⟨A,E,I,O⟩) (hA:GrW ⟨A,E,I,O⟩ A) (ht:IntsAt w vt (upL A)) :
  Calls Tryz.prog 295 #[.agg #[.int .i64 A,ve,vi,vo],.int .i64 A,vt] w (GrMq ⟨A,E,I,O⟩ w):=by
 have h:=movedQ_any ⟨A,E,I,O⟩ ve vi vo vt (upL A) A w hR hA.ok ht (by rw [upL_len];exact hA.le) hA.up
 rw [mvI_up _ A hA.up rfl] at h
 exact h
theorem beside_any (A B:Nat) (E E':List EdI) (I I' O O':List Int) (ve vi vo ve' vi' vo':Value) (w:World) (hR:GrR w ve vi vo ⟨A,E,I,O⟩) (hR':GrR w ve' vi' vo' ⟨B,E',I',O'⟩) (hA:GrW ⟨A,E,I,O⟩ A) (hB':GrW ⟨B,E',I',O'⟩ B) :
  Calls Tryz.prog 246 #[.agg #[.int .i64 A,ve,vi,vo],.agg #[.int .i64 B,ve',vi',vo']] w (GrMk ⟨((A+B:Nat):Int),E ++ E'.map (mvE (fromL A B)),[],[]⟩ w):=by
 obtain ⟨ae,ce,rfl⟩:=hR.ed.slice
 obtain ⟨ai,ci,rfl⟩:=hR.inn.slice
 obtain ⟨ao,co,rfl⟩:=hR.out.slice
 obtain ⟨ae',ce',rfl⟩:=hR'.ed.slice
 obtain ⟨ai',ci',rfl⟩:=hR'.inn.slice
 obtain ⟨ao',co',rfl⟩:=hR'.out.slice
 dsimp only at hR hR' ⊢
 have hAle:=hA.le
 have hBle:=hB'.le
 have hA1:=alloc_below w (.cells #[.int .i64 A,.slice ae E.length ce,.slice ai I.length ci,.slice ao O.length co] 53)
 have hA2:=alloc_below (w.alloc (.cells #[.int .i64 A,.slice ae E.length ce,.slice ai I.length ci,.slice ao O.length co] 53)) (.cells #[.int .i64 B,.slice ae' E'.length ce',.slice ai' I'.length ci',.slice ao' O'.length co'] 53)
 have hA3:=alloc_below ((w.alloc (.cells #[.int .i64 A,.slice ae E.length ce,.slice ai I.length ci,.slice ao O.length co] 53)).alloc (.cells #[.int .i64 B,.slice ae' E'.length ce',.slice ai' I'.length ci',.slice ao' O'.length co'] 53)) (.cells #[.int .i64 0,.slice none 0 0,.slice none 0 0,.slice none 0 0] 53)
 have hB:=hA1.trans ((hA2.mono hA1.size).trans (hA3.mono (by simp;omega)))
 have kA:=((Bk.new w 53 #[.int .i64 A,.slice ae E.length ce,.slice ai I.length ci,.slice ao O.length co]).keep hA2).keep hA3
 have kB:=(Bk.new (w.alloc (.cells #[.int .i64 A,.slice ae E.length ce,.slice ai I.length ci,.slice ao O.length co] 53)) 53 #[.int .i64 B,.slice ae' E'.length ce',.slice ai' I'.length ci',.slice ao' O'.length co']).keep hA3
 have kR:=Bk.new ((w.alloc (.cells #[.int .i64 A,.slice ae E.length ce,.slice ai I.length ci,.slice ao O.length co] 53)).alloc (.cells #[.int .i64 B,.slice ae' E'.length ce',.slice ai' I'.length ci',.slice ao' O'.length co'] 53)) 53 #[.int .i64 0,.slice none 0 0,.slice none 0 0,.slice none 0 0]
 simp only [World.size_alloc] at kR kB
 clear hA1 hA2 hA3
 have HWA:=Lib.hid hA
 have HWB:=Lib.hid hB'
 have HRA:=Lib.hid hR
 have HRB:=Lib.hid hR'
 clear hA hB' hR hR'
 have hw:IntKind.i64.wrap ((A:Int)+B)=(A:Int)+B:=IntWalk.i64_in _ (by omega)
 obtain ⟨iA,-,zA⟩:=kA.cell
 obtain ⟨iB,-,zB⟩:=kB.cell
 have a0:=iA 0
 have b0:=iB 0
 simp at a0 b0
 clear iA iB
 go_enter Tryz.func246,Tryz.ntmps246
 go_wp2_with fail
 have hA4:=alloc_below (((w.alloc (.cells #[.int .i64 A,.slice ae E.length ce,.slice ai I.length ci,.slice ao O.length co] 53)).alloc (.cells #[.int .i64 B,.slice ae' E'.length ce',.slice ai' I'.length ci',.slice ao' O'.length co'] 53)).alloc (.cells #[.int .i64 0,.slice none 0 0,.slice none 0 0,.slice none 0 0] 53)) (.cells #[.int .i64 ((A:Int)+B),.slice none 0 0,.slice none 0 0,.slice none 0 0] 53)
 have kO:=Bk.new (((w.alloc (.cells #[.int .i64 A,.slice ae E.length ce,.slice ai I.length ci,.slice ao O.length co] 53)).alloc (.cells #[.int .i64 B,.slice ae' E'.length ce',.slice ai' I'.length ci',.slice ao' O'.length co'] 53)).alloc (.cells #[.int .i64 0,.slice none 0 0,.slice none 0 0,.slice none 0 0] 53)) 53 #[.int .i64 ((A:Int)+B),.slice none 0 0,.slice none 0 0,.slice none 0 0]
 simp only [World.size_alloc] at kO
 replace kA:=kA.keep hA4
 replace kB:=kB.keep hA4
 replace kR:=kR.keep hA4
 replace hB:=hB.trans (hA4.mono hB.size)
 clear hA4 a0 b0 zA zB
 generalize ((((w.alloc (.cells #[.int .i64 A,.slice ae E.length ce,.slice ai I.length ci,.slice ao O.length co] 53)).alloc (.cells #[.int .i64 B,.slice ae' E'.length ce',.slice ai' I'.length ci',.slice ao' O'.length co'] 53)).alloc (.cells #[.int .i64 0,.slice none 0 0,.slice none 0 0,.slice none 0 0] 53)).alloc (.cells #[.int .i64 ((A:Int)+B),.slice none 0 0,.slice none 0 0,.slice none 0 0] 53))=u0 at *
 have HLOW:=Lib.hid kO.lt
 obtain ⟨iA,-,zA⟩:=kA.cell
 have a0:=iA 0
 have a1:=iA 1
 have a2:=iA 2
 have a3:=iA 3
 simp at a0 a1 a2 a3
 clear iA
 have up0:∀ {w':World},Exc NoT u0.drew w' → Below u0.heap.size u0 w':=fun h=>(Below.refl u0.heap.size u0).drew.trans (h.toBelow.mono (by simp))
 refine region_acts (C:=Exc (NoT) _) 4 [0,1,2,3,4,5,6,7,8] (by kernel_rfl) (by kernel_rfl) (Exc.grows _ _) (Exc.refl _ _) ?_
 iterate 5 (apply x_st rfl rfl rfl;(focus intro u hc' hf';go_simp <;> rfl);intro K hK;go_simp;apply hK;clear hK K)
 refine x_call rfl rfl rfl (Exc.grows _ _) (Exc.refl _ _) 253 (fun K hK=>?_);apply Exists.intro;refine ⟨fun w' hw'=>?_,fun wa hwa hbwa=>?_⟩;(focus go_simp;rfl);refine (upTo_any A _ (by omega)).mono ?_;rintro e w3 ⟨v3,rfl,hr3,hb3⟩;refine ⟨_,rfl,hb3,fun hx=>?_⟩;go_simp;apply hK;clear hK K
 refine x_call rfl rfl rfl (Exc.grows _ _) (hx) 295 (fun K hK=>?_);apply Exists.intro;refine ⟨fun w' hw'=>?_,fun wb hwb hbwb=>?_⟩;(focus go_simp;rfl);refine (copyQ_any A E I O _ _ _ _ _ (HRA.out.keep (hB.trans ((up0 hwb).mono hB.size))) HWA.out (hr3.keep hbwb).at).mono ?_;rintro e w4 ⟨x1,y1,x2,y2,x3,y3,rfl,hg4,hb4⟩;refine ⟨_,rfl,hb4,fun hx=>?_⟩;go_simp;apply hK;clear hK K
 refine x_make rfl rfl rfl (Exc.grows _ _) hx (fun b=>.pointer (some ⟨b,0,none⟩)) (fun K hK=>?_)
 apply Exists.intro
 refine ⟨fun w' hw'=>?_,fun b6 w7 hw7 hb7 hbo hNb hnb=>?_⟩
 ·go_simp
  rfl
 go_simp
 refine hK _ _ _ ?_
 clear hK K
 refine x_do rfl rfl rfl (Exc.grows _ _) hw7 (fun K hK=>?_)
 intro w8 hw8 hb8
 have kP:Bk w8 b6 53 #[.int .i64 0,.slice none 0 0,.slice none 0 0,.slice none 0 0]:=(hb8.block b6 (made_cell hbo).2.2).trans hbo
 obtain ⟨m0,m1,m2⟩:=kP.cell
 refine ⟨(((w8.setCell ⟨b6,0,none⟩ (.int .i64 A)).setCell ⟨b6,1,none⟩ (.slice x1 E.length y1)).setCell ⟨b6,2,none⟩ (.slice x2 I.length y2)).setCell ⟨b6,3,none⟩ (.slice x3 O.length y3),?_,⟨exc_set (exc_set (exc_set (exc_set hw8 (.inl hNb) _) (.inl hNb) _) (.inl hNb) _) (.inl hNb) _,by simp,fun j _ hj _=>by rw [Below.heap_setCell _ _ _ _ (fun h=>hj (by simp [h])),Below.heap_setCell _ _ _ _ (fun h=>hj (by simp [h])),Below.heap_setCell _ _ _ _ (fun h=>hj (by simp [h])),Below.heap_setCell _ _ _ _ (fun h=>hj (by simp [h]))]⟩,?_⟩
 ·go_simp
 go_simp
 refine hK _ _ _ ?_
 clear hK K
 refine x_nil ?_
 have hb6:u0.heap.size≤b6:=by simpa using hNb
 have hb48:=hb7.trans (hb8.mono hb7.size)
 have k6:Bk _ b6 53 #[.int .i64 A,.slice x1 E.length y1,.slice x2 I.length y2,.slice x3 O.length y3]:=(((kP.set 0 (.int .i64 A)).set 1 (.slice x1 E.length y1)).set 2 (.slice x2 I.length y2)).set 3 (.slice x3 O.length y3)
 have hgo:EdsO w8 u0.heap.size (.slice x1 E.length y1) E:=(hg4.ed.keep hb48).mono (B':=u0.heap.size) (by have:=(up0 hwb).size;omega)
 have hed6:=(((hgo.setB kP (by decide) (by decide) 0 (.int .i64 A)).setB (kP.set 0 _) (by decide) (by decide) 1 (.slice x1 E.length y1)).setB ((kP.set 0 _).set 1 _) (by decide) (by decide) 2 (.slice x2 I.length y2)).setB (((kP.set 0 _).set 1 _).set 2 _) (by decide) (by decide) 3 (.slice x3 O.length y3)
 have hb1:Below u0.heap.size u0 ((((w8.setCell ⟨b6,0,none⟩ (.int .i64 A)).setCell ⟨b6,1,none⟩ (.slice x1 E.length y1)).setCell ⟨b6,2,none⟩ (.slice x2 I.length y2)).setCell ⟨b6,3,none⟩ (.slice x3 O.length y3)):=((((up0 hw8).setCell hb6 _).setCell hb6 _).setCell hb6 _).setCell hb6 _
 have H6:=Lib.hid (And.intro hb6 (show b6<w8.heap.size from kP.lt))
 clear hx hwa hbwa hwb hbwb hr3 hb3 hg4 hb4 hw7 hb7 hbo hNb hnb hw8 hb8 kP m0 m1 m2 hgo hb48 up0 a0 a1 a2 a3 zA hb6
 generalize ((((w8.setCell ⟨b6,0,none⟩ (.int .i64 A)).setCell ⟨b6,1,none⟩ (.slice x1 E.length y1)).setCell ⟨b6,2,none⟩ (.slice x2 I.length y2)).setCell ⟨b6,3,none⟩ (.slice x3 O.length y3))=u1 at *
 replace kA:=kA.keep hb1
 replace kB:=kB.keep hb1
 replace kR:=kR.keep hb1
 replace kO:=kO.keep hb1
 have hB1:=hB.trans (hb1.mono hB.size)
 obtain ⟨iA,-,zA⟩:=kA.cell
 have g0:=iA 0
 simp at g0
 clear iA
 obtain ⟨iA,-,zB⟩:=kB.cell
 have a0:=iA 0
 have a1:=iA 1
 have a2:=iA 2
 have a3:=iA 3
 simp at a0 a1 a2 a3
 clear iA
 have up0:∀ {w':World},Exc NoT u1.drew w' → Below u1.heap.size u1 w':=fun h=>(Below.refl u1.heap.size u1).drew.trans (h.toBelow.mono (by simp))
 go_wp2_with fail
 refine region_acts (C:=Exc (NoT) _) 4 [0,1,2,3,4,5,6,7,8,9,10] (by kernel_rfl) (by kernel_rfl) (Exc.grows _ _) (Exc.refl _ _) ?_
 iterate 7 (apply x_st rfl rfl rfl;(focus intro u hc' hf';go_simp <;> rfl);intro K hK;go_simp;apply hK;clear hK K)
 refine x_call rfl rfl rfl (Exc.grows _ _) (Exc.refl _ _) 249 (fun K hK=>?_);apply Exists.intro;refine ⟨fun w' hw'=>?_,fun wa hwa hbwa=>?_⟩;(focus go_simp;rfl);refine (from_any A B _ (by omega) (by omega)).mono ?_;rintro e w3 ⟨v3,rfl,hr3,hb3⟩;refine ⟨_,rfl,hb3,fun hx=>?_⟩;go_simp;apply hK;clear hK K
 refine x_call rfl rfl rfl (Exc.grows _ _) (hx) 295 (fun K hK=>?_);apply Exists.intro;refine ⟨fun w' hw'=>?_,fun wb hwb hbwb=>?_⟩;(focus go_simp;rfl);refine (movedQ_any ⟨B,E',I',O'⟩ _ _ _ _ (fromL A B) B _ (HRB.out.keep (hB1.trans ((up0 hwb).mono hB1.size))) HWB.out.ok (hr3.keep hbwb).at (by rw [fromL_len];omega) (HWB.out.from A)).mono ?_;rintro e w4 ⟨s1,t1,s2,t2,s3,t3,rfl,hg4,hb4⟩;refine ⟨_,rfl,hb4,fun hx=>?_⟩;go_simp;apply hK;clear hK K
 dsimp only [mvI] at hg4 ⊢
 generalize hE2:List.map (mvE (fromL A B)) E'=E2 at *
 generalize hI2:pickL (fromL A B) I'=I2 at *
 generalize hO2:pickL (fromL A B) O'=O2 at *
 refine x_make rfl rfl rfl (Exc.grows _ _) hx (fun b=>.pointer (some ⟨b,0,none⟩)) (fun K hK=>?_)
 apply Exists.intro
 refine ⟨fun w' hw'=>?_,fun b7 w7 hw7 hbb7 hbo hNb hnb=>?_⟩
 ·go_simp
  rfl
 go_simp
 refine hK _ _ _ ?_
 clear hK K
 refine x_do rfl rfl rfl (Exc.grows _ _) hw7 (fun K hK=>?_)
 intro w8 hw8 hb8
 have kP:Bk w8 b7 53 #[.int .i64 0,.slice none 0 0,.slice none 0 0,.slice none 0 0]:=(hb8.block b7 (made_cell hbo).2.2).trans hbo
 obtain ⟨m0,m1,m2⟩:=kP.cell
 refine ⟨(((w8.setCell ⟨b7,0,none⟩ (.int .i64 B)).setCell ⟨b7,1,none⟩ (.slice s1 E2.length t1)).setCell ⟨b7,2,none⟩ (.slice s2 I2.length t2)).setCell ⟨b7,3,none⟩ (.slice s3 O2.length t3),?_,⟨exc_set (exc_set (exc_set (exc_set hw8 (.inl hNb) _) (.inl hNb) _) (.inl hNb) _) (.inl hNb) _,by simp,fun j _ hj _=>by rw [Below.heap_setCell _ _ _ _ (fun h=>hj (by simp [h])),Below.heap_setCell _ _ _ _ (fun h=>hj (by simp [h])),Below.heap_setCell _ _ _ _ (fun h=>hj (by simp [h])),Below.heap_setCell _ _ _ _ (fun h=>hj (by simp [h]))]⟩,?_⟩
 ·go_simp
 go_simp
 refine hK _ _ _ ?_
 clear hK K
 refine x_nil ?_
 have hb7:u1.heap.size≤b7:=by simpa using hNb
 have hb48:=hbb7.trans (hb8.mono hbb7.size)
 have k7:Bk _ b7 53 #[.int .i64 B,.slice s1 E2.length t1,.slice s2 I2.length t2,.slice s3 O2.length t3]:=(((kP.set 0 (.int .i64 B)).set 1 (.slice s1 E2.length t1)).set 2 (.slice s2 I2.length t2)).set 3 (.slice s3 O2.length t3)
 have hgo:EdsO w8 u1.heap.size (.slice s1 E2.length t1) E2:=(hg4.ed.keep hb48).mono (B':=u1.heap.size) (by have:=(up0 hwb).size;omega)
 have hed7:=(((hgo.setB kP (by decide) (by decide) 0 (.int .i64 B)).setB (kP.set 0 _) (by decide) (by decide) 1 (.slice s1 E2.length t1)).setB ((kP.set 0 _).set 1 _) (by decide) (by decide) 2 (.slice s2 I2.length t2)).setB (((kP.set 0 _).set 1 _).set 2 _) (by decide) (by decide) 3 (.slice s3 O2.length t3)
 have hb2:Below u1.heap.size u1 ((((w8.setCell ⟨b7,0,none⟩ (.int .i64 B)).setCell ⟨b7,1,none⟩ (.slice s1 E2.length t1)).setCell ⟨b7,2,none⟩ (.slice s2 I2.length t2)).setCell ⟨b7,3,none⟩ (.slice s3 O2.length t3)):=((((up0 hw8).setCell hb7 _).setCell hb7 _).setCell hb7 _).setCell hb7 _
 have H7:=Lib.hid (And.intro hb7 (show b7<w8.heap.size from kP.lt))
 clear hx hwa hbwa hwb hbwb hr3 hb3 hg4 hb4 hw7 hbb7 hbo hNb hnb hw8 hb8 kP m0 m1 m2 hgo hb48 up0 a0 a1 a2 a3 zA hb7
 generalize ((((w8.setCell ⟨b7,0,none⟩ (.int .i64 B)).setCell ⟨b7,1,none⟩ (.slice s1 E2.length t1)).setCell ⟨b7,2,none⟩ (.slice s2 I2.length t2)).setCell ⟨b7,3,none⟩ (.slice s3 O2.length t3))=u2 at *
 replace kA:=kA.keep hb2
 replace kB:=kB.keep hb2
 replace kR:=kR.keep hb2
 replace kO:=kO.keep hb2
 have hB2:=hB1.trans (hb2.mono hB1.size)
 replace k6:=k6.keep hb2
 replace hed6:=hed6.keep hb2
 have H1:=Lib.hid (And.intro hb1.size (And.intro hb2.size hB.size))
 have HE2:=Lib.hid (And.intro hE2 (show E2.length=E'.length by rw [← hE2,List.length_map]))
 have HLn:=Lib.hid (show E.length≤10000∧E'.length≤10000 from ⟨HWA.out.ok.ed,HWB.out.ok.ed⟩)
 clear hb2 hb1 g0 hE2 hI2 hO2 kA kB
 obtain ⟨i6,-,z6⟩:=k6.cell
 obtain ⟨i7,-,z7⟩:=k7.cell
 have c6:=i6 1
 have c7:=i7 1
 simp at c6 c7
 clear i6 i7 k6 k7
 go_wp2_with (at_builtin;refine Hid.out ?_)
 refine Lib.hid ?_
 refine eds_append hed6 hed7 rfl (.tmp 31) (.tmp 33) rfl rfl rfl H1.out.1 (by have:=H1.out;omega) (by have:=HLn.out;have:=HE2.out.2;omega) ?_
 intro v3 w9 r1 r2 r3
 obtain ⟨L3,hL3⟩:∃ L,E ++ E2=L:=⟨_,rfl⟩
 rw [hL3] at r1
 have kO9:=kO.grown r2 (hed6.ne kO (by decide))
 have kR9:=kR.grown r2 (hed6.ne kR (by decide))
 obtain ⟨a9,c9,rfl⟩:=r1.shape
 have hB9:=hB2.grown r2 hB2.size (fun j hj=>Nat.le_trans H1.out.2.2 (hed6.lo j hj))
 have HF:=Lib.hid (And.intro r1 hB9)
 have HL3:=Lib.hid hL3
 obtain ⟨iO,fO,zO⟩:=kO9.cell
 obtain ⟨iR,fR,zR⟩:=kR9.cell
 have hneO:¬ w.heap.size+1+1=w.heap.size+1+1+1:=by omega
 have hneR:¬ w.heap.size+1+1+1=w.heap.size+1+1:=by omega
 clear hed6 hed7 r1 r2 r3 kO kR hL3 hB9 c6 c7 z6 z7
 go_wp2
 refine bodyPost_ret (v:=.agg #[.int .i64 ((A:Int)+B),.slice a9 L3.length c9,.slice none 0 0,.slice none 0 0]) (by simp [results,Tryz.results246,go_sem,iR,hneR]) rfl ⟨_,_,_,rfl,?_,?_⟩
 ·rw [HL3.out]
  have hlow:=HLOW.out
  have g0:GrO (w9.setCell ⟨w.heap.size+1+1+1,1,none⟩ (.slice a9 L3.length c9)) u0.heap.size (.slice a9 L3.length c9) (.slice none 0 0) (.slice none 0 0) ⟨((A+B:Nat):Int),L3,[],[]⟩ :=
   ⟨HF.out.1.low hlow _,World.ownsRow_nil _ _ _ _,World.ownsRow_nil _ _ _ _⟩
  exact (g0.res (b:=w.heap.size+1+1) (by omega) _ _ _ _).mono H1.out.2.2
 ·exact below_res (HF.out.2.setCell (by simp;omega) _) (by omega) _ _ _ _
end Go.Proofs.YtbljmfcifljkaaaGreatDoor
/-
  The program's seqGraphs. Own work.
-/
namespace Go.Proofs.YtbljmfcifljkaaaGreatDoor
open Go.RowKit
set_option maxRecDepth 100000
set_option maxHeartbeats 1000000
theorem infoPr:(Tryz.prog.info? 301).map (fun i=>(i.zero,i.size,i.bytes))=some (some (.agg #[.int .i64 0,.int .i64 0]),2,16):=by kernel_rfl
def prCells (p:Nat × Nat):List Value:=[.int .i64 ((p.1:Nat):Int),.int .i64 ((p.2:Nat):Int)]
theorem prCells_len (p:Nat × Nat):(prCells p).length=2:=rfl
def PrO (w:World) (B:Nat) (v:Value) (ps:List (Nat × Nat)):Prop:=w.ownsRow B 301 2 v ps.length (ps.flatMap prCells)
theorem PrO.keep {w w':World} {B:Nat} {v:Value} {ps:List (Nat × Nat)} (hb:Below w.heap.size w w') (h:PrO w B v ps):PrO w' B v ps:=owns_keep hb h
theorem PrO.shape {w:World} {B:Nat} {v:Value} {ps:List (Nat × Nat)} (h:PrO w B v ps):∃ a c,v=.slice a ps.length c:=by
 rcases h.2 with ⟨hv,he⟩|⟨g,cap,cur,hv,_⟩
 ·exact ⟨none,0,by rw [hv,he]⟩
 ·exact ⟨_,_,hv⟩
theorem PrO.at {w:World} {B:Nat} {v:Value} {ps:List (Nat × Nat)} (h:PrO w B v ps):PrsAt w v ps:=by
 refine owns_slat h _ fun i b o hi hc=>⟨hi,?_⟩
 have g:∀ j,j<2 → w.cell? ⟨b,o+j,none⟩=(prCells ps[i])[j]?:=fun j hj=>(hc j hj).trans (flat_get prCells_len ps i j hi hj)
 exact ⟨g 0 (by omega),g 1 (by omega)⟩
theorem pr_one {ys:List (Nat × Nat)}:∀ u ∈ ys.flatMap prCells,u.oneCell'=true:=by
 intro u hu
 obtain ⟨x,hx,hd⟩:=List.mem_flatMap.1 hu
 simp only [prCells,List.mem_cons,List.not_mem_nil,or_false] at hd
 rcases hd with rfl|rfl <;> rfl
theorem pr_empty (w:World) (B b:Nat) (hb:b=w.heap.size) (hB:B≤b):PrO (w.alloc (.cells #[] 301)) B (.slice (some ⟨b,0,none⟩) 0 0) [] :=
 ⟨rfl,.inr ⟨b,0,#[],rfl,hB,by subst hb;exact Bk.new w _ _,Nat.le_refl _,by unfold maxLen;omega,rfl,rfl⟩⟩
theorem x_prapp {ops:Array Oper} {Q:Exit → Act → World → Prop} {T:Nat → Prop} {w0:World} {i:Nat} {l:List Nat} {bs:Nat → Prop} {a:Act} {w:World} {o:Oper} (ho:ops[i]?=some o) (hk:opKind o=.act) (hg:o.guard=none) (hC:Exc T w0 w) (s x:Operand)
  (hop:o.op=Op.call { callee:=Callee.builtin Builtin.append,args:=#[s,x],argTypes:=#[300,300] })
  (B:Nat) (v:Value) (xs ys:List (Nat × Nat)) (b m c:Nat) (hm:ys.length=m) (hs:a.eval s=v) (hx:a.eval x=.slice (some ⟨b,0,none⟩) m c)
  (hvT:∀ k,v.ownBlock=some k → (k<w0.heap.size∧T k)∨(w0.heap.size≤k∧bs k)) (hbase:B≤w.heap.size) (hl:xs.length+m≤100000)
  (hrow:PrO w B v xs) (hbo:w.heap[b]?=some (.cells (ys.flatMap prCells).toArray 301))
  (h:∀ K:(Nat → Prop) → Act → World → Prop,(∀ bs a w,WX Tryz.prog ops (Exc T w0) w0.heap.size Q l bs a w → K bs a w) → ∀ w1 w2 v',Exc T w0 w1 → Below w.heap.size w w1 →
   PrO w2 B v' (xs ++ ys) → w1.grownBy w2 v.ownBlock → Exc T w0 w2 → (v'.ownBlock=v.ownBlock∨v'.ownBlock=some w1.heap.size) → K (more bs w1 w2) (a.put o.dst v') w2) :
  WX Tryz.prog ops (Exc T w0) w0.heap.size Q (i :: l) bs a w:=by
 subst hm
 obtain ⟨i0,hi,hz0,hz1,hz2⟩:=info_parts infoPr
 refine x_src ho hk hg hC s x 300 hop B 301 i0 _ 2 16 Tryz.underlying300 hi hz0 hz1 hz2 rfl (by decide) v xs.length (xs.flatMap prCells) hs hvT (.slice (some ⟨b,0,none⟩) ys.length c) ys.length (ys.flatMap prCells) hx ?_ (by unfold maxLen;omega) (by omega) hbase ?_ ?_
 ·exact pr_one
 ·intro w1 hw1 hb1
  refine ⟨hrow.keep hb1,flat_length prCells_len ys,.inr ⟨_,c,rfl,?_⟩⟩
  obtain ⟨m0,_,_⟩:=made_cell ((hb1.block b (made_cell hbo).2.2).trans hbo)
  intro j u hj
  rw [addr_add,Nat.zero_add,m0 j]
  simpa using hj
 ·intro K hK w1 w2 v' hw1 hb1 h1 h2 h3 h4
  refine h K hK w1 w2 v' hw1 hb1 ?_ h2 h3 h4
  unfold PrO
  rw [List.length_append,List.flatMap_append]
  exact h1
theorem prs_get {a b:GrI} (h:a.outs.length=b.ins.length) (j:Nat) (hj:j<a.outs.length) {m q:Nat} (hm:a.outs[j]=(m:Int)) (hq:b.ins[j]'(by omega)=(q:Int)):∃ h:j<(prsI a b).length,(prsI a b)[j]=(m,q+a.wires.toNat):=by
 have hl:(prsI a b).length=a.outs.length:=by unfold prsI;rw [List.length_map,List.length_zip];omega
 refine ⟨by omega,?_⟩
 simp only [prsI,List.getElem_map,List.getElem_zip,hm,hq,Int.toNat_natCast]
theorem GrMk.mq {g:GrI} {w w':World} {e:Ending} (h:GrMk g w e w'):GrMq g w e w':=h.q
theorem seqGraphs_any (A B:Nat) (E E':List EdI) (I I' O O':List Int) (ve vi vo ve' vi' vo':Value) (w:World) (hR:GrR w ve vi vo ⟨A,E,I,O⟩) (hR':GrR w ve' vi' vo' ⟨B,E',I',O'⟩)
  (ga:grB ⟨A,E,I,O⟩=true) (gb:grB ⟨B,E',I',O'⟩=true) (hfit:O.length=I'.length) :
  Calls Tryz.prog 186 #[.agg #[.int .i64 A,ve,vi,vo],.agg #[.int .i64 B,ve',vi',vo']] w (GrMk (sqI ⟨A,E,I,O⟩ ⟨B,E',I',O'⟩) w):=by
 obtain ⟨G,hG⟩:∃ G,sqI ⟨A,E,I,O⟩ ⟨B,E',I',O'⟩=G:=⟨_,rfl⟩
 rw [hG]
 have HSQ:=Lib.hid hG
 clear hG
 obtain ⟨ae,ce,rfl⟩:=hR.ed.slice
 obtain ⟨ai,ci,rfl⟩:=hR.inn.slice
 obtain ⟨ao,co,rfl⟩:=hR.out.slice
 obtain ⟨ae',ce',rfl⟩:=hR'.ed.slice
 obtain ⟨ai',ci',rfl⟩:=hR'.inn.slice
 obtain ⟨ao',co',rfl⟩:=hR'.out.slice
 have hA:=grB_w ga rfl
 have hB':=grB_w gb rfl
 dsimp only at hR hR'
 have hAle:=hA.le
 have hBle:=hB'.le
 have hA1:=alloc_below w (.cells #[.int .i64 A,.slice ae E.length ce,.slice ai I.length ci,.slice ao O.length co] 53)
 have hA2:=alloc_below (w.alloc (.cells #[.int .i64 A,.slice ae E.length ce,.slice ai I.length ci,.slice ao O.length co] 53)) (.cells #[.int .i64 B,.slice ae' E'.length ce',.slice ai' I'.length ci',.slice ao' O'.length co'] 53)
 have hA3:=alloc_below ((w.alloc (.cells #[.int .i64 A,.slice ae E.length ce,.slice ai I.length ci,.slice ao O.length co] 53)).alloc (.cells #[.int .i64 B,.slice ae' E'.length ce',.slice ai' I'.length ci',.slice ao' O'.length co'] 53)) (.cells #[.int .i64 0,.slice none 0 0,.slice none 0 0,.slice none 0 0] 53)
 have hB:=hA1.trans ((hA2.mono hA1.size).trans (hA3.mono (by simp;omega)))
 have kA:=((Bk.new w 53 #[.int .i64 A,.slice ae E.length ce,.slice ai I.length ci,.slice ao O.length co]).keep hA2).keep hA3
 have kB:=(Bk.new (w.alloc (.cells #[.int .i64 A,.slice ae E.length ce,.slice ai I.length ci,.slice ao O.length co] 53)) 53 #[.int .i64 B,.slice ae' E'.length ce',.slice ai' I'.length ci',.slice ao' O'.length co']).keep hA3
 have kR:=Bk.new ((w.alloc (.cells #[.int .i64 A,.slice ae E.length ce,.slice ai I.length ci,.slice ao O.length co] 53)).alloc (.cells #[.int .i64 B,.slice ae' E'.length ce',.slice ai' I'.length ci',.slice ao' O'.length co'] 53)) 53 #[.int .i64 0,.slice none 0 0,.slice none 0 0,.slice none 0 0]
 simp only [World.size_alloc] at kR kB
 clear hA1 hA2 hA3
 have HWA:=Lib.hid hA
 have HWB:=Lib.hid hB'
 have HRA:=Lib.hid hR
 have HRB:=Lib.hid hR'
 have HG:=Lib.hid (And.intro ga (And.intro gb hfit))
 clear hA hB' hR hR' ga gb hfit
 have HBS:=Lib.hid (fun u (h:GrR u (.slice ae E.length ce) (.slice ai I.length ci) (.slice ao O.length co) ⟨A,E,I,O⟩) (h':GrR u (.slice ae' E'.length ce') (.slice ai' I'.length ci') (.slice ao' O'.length co') ⟨B,E',I',O'⟩)=>(beside_any A B E E' I I' O O' _ _ _ _ _ _ u h h' HWA.out HWB.out).mono (R':=GrMq _ u) fun _ _ h=>h.mq)
 go_enter Tryz.func186,Tryz.ntmps186
 go_wp2_with fail
 generalize (((w.alloc (.cells #[.int .i64 A,.slice ae E.length ce,.slice ai I.length ci,.slice ao O.length co] 53)).alloc (.cells #[.int .i64 B,.slice ae' E'.length ce',.slice ai' I'.length ci',.slice ao' O'.length co'] 53)).alloc (.cells #[.int .i64 0,.slice none 0 0,.slice none 0 0,.slice none 0 0] 53))=u0 at *
 have hlow0:=kR.lt
 refine (HBS.out u0 (HRA.out.keep hB) (HRB.out.keep hB)).mono ?_
 rintro e u1 ⟨x1,y1,x2,y2,x3,y3,rfl,hg1,hb1⟩
 obtain ⟨L3,hL3⟩:∃ L,E ++ E'.map (mvE (fromL A B))=L:=⟨_,rfl⟩
 rw [hL3] at hg1 ⊢
 dsimp only [List.length_nil] at hg1 ⊢
 have hcast:((A+B:Nat):Int)=(A:Int)+B:=by omega
 simp only [hcast] at hg1 ⊢
 clear hcast
 have hA4:=alloc_below u1 (.cells #[.int .i64 ((A:Int)+B),.slice x1 L3.length y1,.slice x2 0 y2,.slice x3 0 y3] 53)
 have kO:=Bk.new u1 53 #[.int .i64 ((A:Int)+B),.slice x1 L3.length y1,.slice x2 0 y2,.slice x3 0 y3]
 have hA5:=alloc_below (u1.alloc (.cells #[.int .i64 ((A:Int)+B),.slice x1 L3.length y1,.slice x2 0 y2,.slice x3 0 y3] 53)) (.cells #[] 301)
 have hp0:=pr_empty (u1.alloc (.cells #[.int .i64 ((A:Int)+B),.slice x1 L3.length y1,.slice x2 0 y2,.slice x3 0 y3] 53)) (u1.heap.size+1) (u1.heap.size+1) (by simp) (Nat.le_refl _)
 replace kO:=kO.keep hA5
 have hA45:=hA4.trans (hA5.mono hA4.size)
 have kA1:=kA.keep hb1
 obtain ⟨iA,-,zA⟩:=kA1.cell
 go_wp2_with fail
 have hbu1:=hb1.size
 have hsz1:(u1.alloc (.cells #[.int .i64 ((A:Int)+B),.slice x1 L3.length y1,.slice x2 0 y2,.slice x3 0 y3] 53)).heap.size=u1.heap.size+1:=by simp
 have hB1:=hB.trans (hb1.mono hB.size)
 have hB4:=hB1.trans (hA4.mono hB1.size)
 replace kA:=(kA.keep hb1).keep hA4
 replace kB:=(kB.keep hb1).keep hA4
 replace kR:=(kR.keep hb1).keep hA4
 replace hg1:=(hg1.ed.keep hA4)
 have kO1:=Bk.new u1 53 #[.int .i64 ((A:Int)+B),.slice x1 L3.length y1,.slice x2 0 y2,.slice x3 0 y3]
 have HLW:=Lib.hid (And.intro hlow0 hbu1)
 clear kO hA45 kA1 iA zA hb1 hbu1 hA4 hB1
 generalize (u1.alloc (.cells #[.int .i64 ((A:Int)+B),.slice x1 L3.length y1,.slice x2 0 y2,.slice x3 0 y3] 53))=v1 at *
 generalize u1.heap.size=bO at *
 have HSZ1:=Lib.hid hsz1
 have hA5':Below v1.heap.size v1 (v1.alloc (.cells #[] 301)):=hA5
 clear hsz1 hA5
 obtain ⟨ps,hps⟩:∃ ps,prsI ⟨A,E,I,O⟩ ⟨B,E',I',O'⟩=ps:=⟨_,rfl⟩
 have HPS:=Lib.hid hps
 clear hps
 obtain ⟨bo,co2,heo,hco,hato⟩:=HRA.out.out
 simp only [Value.slice.injEq] at heo
 obtain ⟨rfl,-,rfl⟩:=heo
 obtain ⟨bi,ci2,hei,hci,hati⟩:=HRB.out.inn
 simp only [Value.slice.injEq] at hei
 obtain ⟨rfl,-,rfl⟩:=hei
 have HATO:=Lib.hid (And.intro hato hati)
 clear hato hati
 have hol:O.length≤12:=(grB_parts HG.out.1).2.2.2.1
 go_loopw [6,16] (fun pv i wr=>∃ j:Nat,j≤O.length∧i=.int .i64 j∧PrO wr (bO+1) pv (ps.take j)∧Below v1.heap.size v1 wr) (fun _ i _=>O.length - (intOf i).toNat)
 case atStart=>exact ⟨0,Nat.zero_le _,rfl,by simpa using hp0,hA5'⟩
 case round =>
  clear hp0 hA5'
  obtain ⟨j,hj,rfl,hrow,hbel⟩:=hrel
  by_cases hlj:j<O.length
  ·obtain ⟨ga,gb,hfit⟩:=HG.out
   obtain ⟨-,-,-,hlo,-,hra⟩:=grB_parts ga
   obtain ⟨-,-,hli,-,-,hrb⟩:=grB_parts gb
   have hlj2:j<I'.length:=by omega
   obtain ⟨b1,o1,rfl,_,c1⟩:=HATO.out.1 j hlj
   obtain ⟨b2,o2,rfl,_,c2⟩:=HATO.out.2 j hlj2
   have r1:=hra (O[j]) (mem_pl.2 (.inr (.inl (List.getElem_mem hlj))))
   have r2:=hrb (I'[j]) (mem_pl.2 (.inl (List.getElem_mem hlj2)))
   obtain ⟨m,hm⟩:∃ m:Nat,O[j]=m:=⟨O[j].toNat,by omega⟩
   obtain ⟨q,hq⟩:∃ q:Nat,I'[j]=q:=⟨I'[j].toNat,by omega⟩
   obtain ⟨hjp,hget⟩:=prs_get (a:=⟨A,E,I,O⟩) (b:=⟨B,E',I',O'⟩) hfit j hlj hm hq
   have hpl:=prs_len (b:=⟨B,E',I',O'⟩) ga
   rw [Int.toNat_natCast] at hget
   have hq2:q<B:=by rw [hq] at r2;simp only at r2;omega
   rw [HPS.out] at hjp hpl
   simp only [HPS.out] at hget
   have htk:=take_one ps j hjp
   rw [hget] at htk
   simp only [hm,hq,Nat.mul_one] at c1 c2
   have HTK:=Lib.hid htk
   have HJP:=Lib.hid (And.intro hjp hpl)
   have hBw:=hB4.trans (hbel.mono hB4.size)
   replace c1:=cell_keep hBw c1
   replace c2:=cell_keep hBw c2
   clear r1 r2 hget htk hm hq ga gb hfit hlo hra hli hrb hjp hpl
   have kAr:=kA.keep hbel
   have kBr:=kB.keep hbel
   obtain ⟨iA,-,zA⟩:=kAr.cell
   obtain ⟨iB,-,zB⟩:=kBr.cell
   have a0:=iA 0
   have b0:=iB 2
   simp at a0 b0
   have z1:=cell_lt c1
   have z2:=cell_lt c2
   clear iA iB
   have hw2:IntKind.i64.wrap ((A:Int)+q)=((q+A:Nat):Int):=by rw [IntWalk.i64_in _ (by omega)];omega
   obtain ⟨av,cv,rfl⟩:=hrow.shape
   obtain ⟨xs,hxs⟩:∃ xs,ps.take j=xs:=⟨_,rfl⟩
   have hxl:xs.length≤12:=by rw [← hxs,List.length_take];have:=HJP.out;omega
   rw [hxs] at hrow HTK ⊢
   have HBL:=Lib.hid (show bO+1≤wr.heap.size by have:=hbel.size;have:=HSZ1.out;omega)
   clear hxs
   go_wp2_with fail
   have up:∀ {w':World},Exc NoT wr.drew w' → Below wr.heap.size wr w':=fun h=>(Below.refl wr.heap.size wr).drew.trans (h.toBelow.mono (by simp))
   refine region_acts2 (C:=Exc (NoT) _) 9 [0,1,2,3,4,5,6,7,8,9,10,11] [12,13] (by kernel_rfl) (by kernel_rfl) (Exc.grows _ _) (Exc.refl _ _) ?_
   iterate 11 (apply x_st rfl rfl rfl;(focus intro u hc' hf';go_simp <;> rfl);intro K hK;go_simp;apply hK;clear hK K)
   refine x_make rfl rfl rfl (Exc.grows _ _) (Exc.refl _ _) (fun b=>.slice (some ⟨b,0,none⟩) 1 1) (fun K hK=>?_)
   apply Exists.intro
   refine ⟨fun w' hw'=>?_,fun bb w5 hw5 hb45 hbo hNb hnb=>?_⟩
   ·obtain ⟨hc',hf'⟩:=hw'.cell
    try simp only [World.size_drew] at hc' hf'
    go_simp
    rfl
   go_simp
   refine hK _ _ _ ?_
   clear hK K
   refine x_nil ?_
   have hb15:Below wr.heap.size wr w5:=up hw5
   have hrow5:=hrow.keep hb15
   have hs15:=hb15.size
   refine ⟨Exc (fun j=>(Value.slice av xs.length cv).ownBlock=some j) w5,w5.heap.size,Exc.grows _ _,Exc.refl _ _,?_⟩
   refine x_prapp rfl rfl rfl (Exc.refl _ _) (.tmp 21) (.tmp 32) rfl (bO+1) (.slice av xs.length cv) xs [(m,q+A)] bb 1 1 rfl rfl rfl (fun j hj=>.inl ⟨(World.ownsRow.lt hrow5 j hj).2,hj⟩) (by have:=HBL.out;omega) (by omega) hrow5 (by simpa [prCells] using hbo) ?_
   intro K hK w6 w7 v7 hw6 hb56 hed hgr hw7 hv7
   obtain ⟨a7,c7,hv7e⟩:=hed.shape
   rw [List.length_append,List.length_singleton] at hv7e
   subst hv7e
   go_simp
   refine hK _ _ _ ?_
   clear hK K
   iterate 1 (apply x_sT rfl rfl rfl;(focus intro u hc' hf';(try simp only [World.size_drew] at hc' hf');go_simp <;> rfl);intro K hK;go_simp;apply hK;clear hK K)
   refine x_nil ?_
   have hb17:Below v1.heap.size v1 w7:=(hbel.trans ((hb15.trans (hb56.mono hs15)).mono hbel.size)).grown hgr (by have:=hbel.size;have:=hb56.size;omega) (fun j hj=>by have:=(World.ownsRow.lt hrow5 j hj).1;have:=HSZ1.out;omega)
   rw [← HTK.out] at hed
   have HE:=Lib.hid (And.intro hed hb17)
   clear hed hb17 hgr hw7 hv7 hw6 hb56 hrow5 hb15 hs15 hbo hNb hnb hw5 hb45 up hrow hbel kAr kBr a0 b0 c1 c2
   go_wp2
   go_roundw
   case rel=>exact ⟨j+1,by omega,by go_num,HE.out.1,HE.out.2⟩
   case measure=>simp [intOf];omega
  ·obtain rfl:j=O.length:=by omega
   have hpl:ps.length=O.length:=by
    rw [← HPS.out]
    unfold prsI
    rw [List.length_map,List.length_zip]
    have:=HG.out.2.2
    simp only
    omega
   rw [List.take_of_length_le (by omega)] at hrow
   have HROW:=Lib.hid hrow
   have HPL:=Lib.hid hpl
   have hBw:=hB4.trans (hbel.mono hB4.size)
   replace kA:=kA.keep hbel
   replace kB:=kB.keep hbel
   replace kR:=kR.keep hbel
   replace kO1:=kO1.keep hbel
   have HED:=Lib.hid (hg1.keep hbel)
   have HSB:=Lib.hid hbel.size
   obtain ⟨av,cv,rfl⟩:=hrow.shape
   rw [hpl]
   clear hrow hpl hg1 hbel hB4
   obtain ⟨iA,-,zA⟩:=kA.cell
   have a0:=iA 0
   have a2:=iA 2
   obtain ⟨iB,-,zB⟩:=kB.cell
   have b0:=iB 0
   have b3:=iB 3
   simp at a0 a2 b0 b3
   clear iA iB
   go_wp2_with fail
   have hneA:¬ w.heap.size=bO:=by have:=HLW.out;have:=HSZ1.out;omega
   have hneB:¬ w.heap.size+1=bO:=by have:=HLW.out;have:=HSZ1.out;omega
   have up:∀ {w':World},Exc (fun j=>j=bO) wr.drew w' → Exc (fun j=>j=bO) wr w':=fun h=>((Exc.refl _ _).below (Below.refl _ _).drew).trans h
   refine region_acts (C:=Exc ((fun j=>j=bO)) _) 6 [0,1,2,3,4,5,6,7,8,9,10,11,12,13,14] (by kernel_rfl) (by kernel_rfl) (Exc.grows _ _) (Exc.refl _ _) ?_
   iterate 2 (apply x_sT rfl rfl rfl;(focus intro u hc' hf';(try simp only [World.size_drew] at hc' hf');go_simp <;> rfl);intro K hK;go_simp;apply hK;clear hK K)
   have bw:∀ {u:World},Below wr.heap.size wr u → Below w.heap.size w u:=fun h=>hBw.trans (h.mono hBw.size)
   have bd:∀ {u:World},Below wr.drew.heap.size wr.drew u → Below wr.heap.size wr u:=fun h=>(Below.refl wr.heap.size wr).drew.trans (h.mono (by simp))
   refine x_call rfl rfl rfl (Exc.grows _ _) (Exc.refl _ _) 247 (fun K hK=>?_);apply Exists.intro;refine ⟨fun w' hw'=>?_,fun wa hwa hbwa=>?_⟩;(focus go_simp;rfl);refine (clone_any _ I _ (HRA.out.inn.keep (bw (bd hbwa))) (by have:=HWA.out.ok.inn;simp only at this;omega)).mono ?_;rintro e w3 ⟨v3,rfl,hr3,hb3⟩;refine ⟨_,rfl,hb3,fun hx=>?_⟩;go_simp;apply hK;clear hK K
   obtain ⟨a3,c3,rfl⟩:=hr3.slice
   have hb13:=(bd hbwa).trans (hb3.mono (bd hbwa).size)
   iterate 6 (apply x_sT rfl rfl rfl;(focus intro u hc' hf';(try simp only [World.size_drew] at hc' hf');go_simp <;> rfl);intro K hK;go_simp;apply hK;clear hK K)
   refine x_call rfl rfl rfl (Exc.grows _ _) (hx) 249 (fun K hK=>?_);apply Exists.intro;refine ⟨fun w' hw'=>?_,fun wb hwb hbwb=>?_⟩;(focus go_simp;rfl);refine (from_any A B _ (by omega) (by omega)).mono ?_;rintro e w4 ⟨v4,rfl,hr4,hb4⟩;refine ⟨_,rfl,hb4,fun hx=>?_⟩;go_simp;apply hK;clear hK K
   have hb1b:=hb13.trans (hbwb.mono hb13.size)
   have hb14:=hb1b.trans (hb4.mono hb1b.size)
   refine x_call rfl rfl rfl (Exc.grows _ _) (hx) 248 (fun K hK=>?_);apply Exists.intro;refine ⟨fun w' hw'=>?_,fun wc hwc hbwc=>?_⟩;(focus go_simp;rfl);refine (mapped_any _ _ (fromL A B) O' _ (hr4.keep hbwc).at (HRB.out.out.keep (bw (hb14.trans (hbwc.mono hb14.size)))) (fun k hk=>by have:=HWB.out.from A k (mem_pl.2 (.inr (.inl hk)));exact this) (by have:=HWB.out.ok.out;simp only at this;omega) (by rw [fromL_len];omega)).mono ?_;rintro e w5 ⟨v5,rfl,hr5,hb5⟩;refine ⟨_,rfl,hb5,fun hx=>?_⟩;go_simp;apply hK;clear hK K
   obtain ⟨a5,c5,rfl⟩:=hr5.slice
   have hb1c:=hb14.trans (hbwc.mono hb14.size)
   have hb15:=hb1c.trans (hb5.mono hb1c.size)
   iterate 1 (apply x_sT rfl rfl rfl;(focus intro u hc' hf';(try simp only [World.size_drew] at hc' hf');go_simp <;> rfl);intro K hK;go_simp;apply hK;clear hK K)
   refine x_do rfl rfl rfl (Exc.grows _ _) hx (fun K hK=>?_)
   intro w6 hw6 hb56
   have kO6:=(kO1.keep hb15).keep hb56
   obtain ⟨m0,m1,m2⟩:=kO6.cell
   refine ⟨w6.setCell ⟨bO,2,none⟩ (.slice a3 I.length c3),?_,⟨exc_set hw6 (.inr rfl) _,by simp,fun j hj _ _=>by rw [Below.heap_setCell _ _ _ _ (by show ¬ _=_;intro hh;have:=kO1.lt;simp only [World.size_drew] at hj hh;omega)]⟩,?_⟩
   ·go_simp
   go_simp
   refine hK _ _ _ ?_
   clear hK K
   have hx6:Exc (fun j=>j=bO) wr.drew (w6.setCell ⟨bO,2,none⟩ (.slice a3 I.length c3)):=exc_set hw6 (.inr rfl) _
   iterate 1 (apply x_sT rfl rfl rfl;(focus intro u hc' hf';(try simp only [World.size_drew] at hc' hf');go_simp <;> rfl);intro K hK;go_simp;apply hK;clear hK K)
   refine x_do rfl rfl rfl (Exc.grows _ _) hx6 (fun K hK=>?_)
   intro w7 hw7 hb67
   have kO7:=(kO6.set 2 (.slice a3 I.length c3)).keep hb67
   obtain ⟨n0,n1,n2⟩:=kO7.cell
   refine ⟨w7.setCell ⟨bO,3,none⟩ (.slice a5 (pickL (fromL A B) O').length c5),?_,⟨exc_set hw7 (.inr rfl) _,by simp,fun j hj _ _=>by rw [Below.heap_setCell _ _ _ _ (by show ¬ _=_;intro hh;have:=kO1.lt;simp only [World.size_drew] at hj hh;omega)]⟩,?_⟩
   ·go_simp
   go_simp
   refine hK _ _ _ ?_
   clear hK K
   refine x_nil ?_
   have k7:Bk (w7.setCell ⟨bO,3,none⟩ (.slice a5 (pickL (fromL A B) O').length c5)) bO 53 #[.int .i64 ((A:Int)+B),.slice x1 L3.length y1,.slice a3 I.length c3,.slice a5 (pickL (fromL A B) O').length c5]:=kO7.set 3 _
   have hb16:=hb15.trans (hb56.mono hb15.size)
   have hz16:=hb16.size
   have t3:Rw w7 0 (.slice a3 I.length c3) I:=by
    have h:=((((hr3.keep hbwb).keep hb4).keep hbwc).keep hb5).keep hb56
    exact ((h.setB kO6 (by decide) 2 _).keep hb67).mono (Nat.zero_le _)
   have t3':=(t3.setB kO7 (by decide) 3 (.slice a5 (pickL (fromL A B) O').length c5)).at
   have t5:Rw w7 0 (.slice a5 (pickL (fromL A B) O').length c5) (pickL (fromL A B) O'):=(((hr5.keep hb56).setB kO6 (by decide) 2 (.slice a3 I.length c3)).keep hb67).mono (Nat.zero_le _)
   have t5':=(t5.setB kO7 (by decide) 3 (.slice a5 (pickL (fromL A B) O').length c5)).at
   have t1:=((((HED.out.keep hb16).setB kO6 (by decide) (by decide) 2 (.slice a3 I.length c3)).keep hb67).setB kO7 (by decide) (by decide) 3 (.slice a5 (pickL (fromL A B) O').length c5)).at
   have p6:=HROW.out.keep hb16
   have p6':PrO (w6.setCell ⟨bO,2,none⟩ (.slice a3 I.length c3)) (bO+1) (.slice av ps.length cv) ps:=owns_other p6 _ _ (row_blk_ne p6 kO6 (by decide))
   have p7:=p6'.keep hb67
   have p7':PrO (w7.setCell ⟨bO,3,none⟩ (.slice a5 (pickL (fromL A B) O').length c5)) (bO+1) (.slice av ps.length cv) ps:=owns_other p7 _ _ (row_blk_ne p7 kO7 (by decide))
   have kR6:=kR.keep hb16
   have hneR:¬ w.heap.size+1+1=bO:=by have:=HLW.out;have:=HSZ1.out;omega
   have kR7:=((kR6.other ⟨bO,2,none⟩ (.slice a3 I.length c3) hneR).keep hb67).other ⟨bO,3,none⟩ (.slice a5 (pickL (fromL A B) O').length c5) hneR
   have hwO:w.heap.size≤bO:=by have:=HLW.out;have:=HSZ1.out;omega
   have hbW7:Below w.heap.size w (w7.setCell ⟨bO,3,none⟩ (.slice a5 (pickL (fromL A B) O').length c5)):=by
    have h6:=bw hb16
    exact ((h6.setCell hwO _).trans (hb67.mono (by simp;exact h6.size))).setCell hwO _
   have HALL:=Lib.hid (And.intro (show GrR (w7.setCell ⟨bO,3,none⟩ (.slice a5 (pickL (fromL A B) O').length c5)) (.slice x1 L3.length y1) (.slice a3 I.length c3) (.slice a5 (pickL (fromL A B) O').length c5) (opI ⟨A,E,I,O⟩ ⟨B,E',I',O'⟩) from by
    unfold opI
    rw [Int.toNat_natCast,Int.toNat_natCast]
    simp only
    rw [hL3]
    exact ⟨t1,t3',t5'⟩) (And.intro p7'.at hbW7))
   clear t3 t3' t5 t5' t1 p6 p6' p7 p7' kR6 hbW7 kO7 kO6 m0 m1 m2 n0 n1 n2 hw7 hw6 hb67 hb56 hx6 hx hb1c hb15 hb16 hb14 hb1b hb13 hwa hbwa hwb hbwb hwc hbwc hr3 hr4 hr5 hb3 hb4 hb5 bw bd up kO1 kR kA kB a0 a2 b0 b3 zA zB hz16 HED HROW hBw
   generalize hOl:(pickL (fromL A B) O').length=ol at *
   generalize (w7.setCell ⟨bO,3,none⟩ (.slice a5 ol c5))=W7 at *
   obtain ⟨i7,f7,z7⟩:=k7.cell
   go_wp2_with fail
   have hp7:=HALL.out.2.1
   rw [HPL.out] at hp7
   have hgl:=glue_any (A+B) L3 I (pickL (fromL A B) O') (.slice x1 L3.length y1) (.slice a3 I.length c3) (.slice a5 ol c5) (.slice av O.length cv) ps W7
   have hOP:opI ⟨A,E,I,O⟩ ⟨B,E',I',O'⟩=⟨((A+B:Nat):Int),L3,I,pickL (fromL A B) O'⟩:=by
    unfold opI
    rw [Int.toNat_natCast,Int.toNat_natCast]
    simp only
    rw [hL3]
   have hR7:=HALL.out.1
   have hOW:=op_w HG.out.1 HG.out.2.1
   have hLT:=prs_lt HG.out.1 HG.out.2.1
   have hPL:=prs_len (b:=⟨B,E',I',O'⟩) HG.out.1
   have hSQ:=HSQ.out
   unfold sqI at hSQ
   rw [HPS.out] at hLT hPL hSQ
   rw [hOP] at hR7 hOW hSQ
   simp only [Int.toNat_natCast] at hOW hLT hSQ
   have hgl2:=hgl hR7 hOW hp7 hLT (by omega)
   rw [hSQ,Int.natCast_add] at hgl2
   refine hgl2.mono ?_
   rintro e w9 ⟨we,wi,wo,wt,rfl,hg9,hrt,hb9⟩
   obtain ⟨⟨p1,q1,rfl⟩,⟨p2,q2,rfl⟩,p3,q3,rfl⟩:=hg9.at.slices
   obtain ⟨pt,qt,rfl⟩:=hrt.slice
   generalize (glT ⟨(A:Int)+(B:Int),L3,I,pickL (fromL A B) O'⟩ (A+B) ps).length=lt at *
   have hfd:∀ (w1:World),(Instr.field 303 (.agg #[.int .i64 G.wires,.slice p1 G.edges.length q1,.slice p2 G.ins.length q2,.slice p3 G.outs.length q3,.slice pt lt qt]) 0).run Tryz.prog w1=.ok (.agg #[.int .i64 G.wires,.slice p1 G.edges.length q1,.slice p2 G.ins.length q2,.slice p3 G.outs.length q3]) w1:=fun _=>by kernel_rfl
   have kR9:=kR7.keep hb9
   have hlow:=kR7.lt
   have HG9:=Lib.hid hg9
   have HB9:=Lib.hid (HALL.out.2.2.trans (hb9.mono HALL.out.2.2.size))
   have HW7:=Lib.hid HALL.out.2.2.size
   obtain ⟨iR,fR,zR⟩:=kR9.cell
   clear hrt hg9 hb9 kR7 hgl2 hSQ hPL hLT hOW hR7 hOP hgl hp7 i7 f7 z7 k7
   obtain ⟨gw,ge,gi,go⟩:=G
   dsimp only at hfd ⊢
   go_wp2
   refine bodyPost_ret (v:=.agg #[.int .i64 gw,.slice p1 ge.length q1,.slice p2 gi.length q2,.slice p3 go.length q3]) (by simp [results,Tryz.results186,go_sem,iR]) rfl ⟨_,_,_,rfl,?_,?_⟩
   ·exact (HG9.out.res hlow _ _ _ _).mono HW7.out
   ·exact below_res HB9.out (by omega) _ _ _ _
end Go.Proofs.YtbljmfcifljkaaaGreatDoor
/-
  The program's parGraphs. Own work.
-/
namespace Go.Proofs.YtbljmfcifljkaaaGreatDoor
open Go.RowKit
set_option maxRecDepth 100000
set_option maxHeartbeats 1000000
theorem ls_two {w:World} {bb:Nat} {t:TypeId} {u v:Value} {a b:List Int} (h:w.heap[bb]?=some (.cells #[u,v] t)) (hu:IntsAt w u a) (hv:IntsAt w v b):LsAt w (.slice (some ⟨bb,0,none⟩) 2 2) [a,b]:=by
 obtain ⟨m0,m1,m2⟩:=made_cell h
 refine ⟨_,_,rfl,Nat.le_refl _,fun i hi=>⟨bb,0,rfl,hi,?_⟩⟩
 have:i=0∨i=1:=by simp at hi;omega
 rcases this with rfl|rfl
 ·exact ⟨u,m0 0,hu⟩
 ·exact ⟨v,m0 1,hv⟩
theorem parGraphs_any (A B:Nat) (E E':List EdI) (I I' O O':List Int) (ve vi vo ve' vi' vo':Value) (w:World) (hR:GrR w ve vi vo ⟨A,E,I,O⟩) (hR':GrR w ve' vi' vo' ⟨B,E',I',O'⟩)
  (ga:grB ⟨A,E,I,O⟩=true) (gb:grB ⟨B,E',I',O'⟩=true) :
  Calls Tryz.prog 187 #[.agg #[.int .i64 A,ve,vi,vo],.agg #[.int .i64 B,ve',vi',vo']] w (GrMk (prI ⟨A,E,I,O⟩ ⟨B,E',I',O'⟩) w):=by
 obtain ⟨G,hG⟩:∃ G,prI ⟨A,E,I,O⟩ ⟨B,E',I',O'⟩=G:=⟨_,rfl⟩
 rw [hG]
 have HSQ:=Lib.hid hG
 clear hG
 obtain ⟨ae,ce,rfl⟩:=hR.ed.slice
 obtain ⟨ai,ci,rfl⟩:=hR.inn.slice
 obtain ⟨ao,co,rfl⟩:=hR.out.slice
 obtain ⟨ae',ce',rfl⟩:=hR'.ed.slice
 obtain ⟨ai',ci',rfl⟩:=hR'.inn.slice
 obtain ⟨ao',co',rfl⟩:=hR'.out.slice
 have hA:=grB_w ga rfl
 have hB':=grB_w gb rfl
 dsimp only at hR hR'
 have hAle:=hA.le
 have hBle:=hB'.le
 have hA1:=alloc_below w (.cells #[.int .i64 A,.slice ae E.length ce,.slice ai I.length ci,.slice ao O.length co] 53)
 have hA2:=alloc_below (w.alloc (.cells #[.int .i64 A,.slice ae E.length ce,.slice ai I.length ci,.slice ao O.length co] 53)) (.cells #[.int .i64 B,.slice ae' E'.length ce',.slice ai' I'.length ci',.slice ao' O'.length co'] 53)
 have hA3:=alloc_below ((w.alloc (.cells #[.int .i64 A,.slice ae E.length ce,.slice ai I.length ci,.slice ao O.length co] 53)).alloc (.cells #[.int .i64 B,.slice ae' E'.length ce',.slice ai' I'.length ci',.slice ao' O'.length co'] 53)) (.cells #[.int .i64 0,.slice none 0 0,.slice none 0 0,.slice none 0 0] 53)
 have hB:=hA1.trans ((hA2.mono hA1.size).trans (hA3.mono (by simp;omega)))
 have kA:=((Bk.new w 53 #[.int .i64 A,.slice ae E.length ce,.slice ai I.length ci,.slice ao O.length co]).keep hA2).keep hA3
 have kB:=(Bk.new (w.alloc (.cells #[.int .i64 A,.slice ae E.length ce,.slice ai I.length ci,.slice ao O.length co] 53)) 53 #[.int .i64 B,.slice ae' E'.length ce',.slice ai' I'.length ci',.slice ao' O'.length co']).keep hA3
 have kR:=Bk.new ((w.alloc (.cells #[.int .i64 A,.slice ae E.length ce,.slice ai I.length ci,.slice ao O.length co] 53)).alloc (.cells #[.int .i64 B,.slice ae' E'.length ce',.slice ai' I'.length ci',.slice ao' O'.length co'] 53)) 53 #[.int .i64 0,.slice none 0 0,.slice none 0 0,.slice none 0 0]
 simp only [World.size_alloc] at kR kB
 clear hA1 hA2 hA3
 have HWA:=Lib.hid hA
 have HWB:=Lib.hid hB'
 have HRA:=Lib.hid hR
 have HRB:=Lib.hid hR'
 have HG:=Lib.hid (And.intro ga gb)
 clear hA hB' hR hR' ga gb
 have HBS:=Lib.hid (fun u (h:GrR u (.slice ae E.length ce) (.slice ai I.length ci) (.slice ao O.length co) ⟨A,E,I,O⟩) (h':GrR u (.slice ae' E'.length ce') (.slice ai' I'.length ci') (.slice ao' O'.length co') ⟨B,E',I',O'⟩)=>(beside_any A B E E' I I' O O' _ _ _ _ _ _ u h h' HWA.out HWB.out).mono (R':=GrMq _ u) fun _ _ h=>h.mq)
 go_enter Tryz.func187,Tryz.ntmps187
 go_wp2_with fail
 generalize (((w.alloc (.cells #[.int .i64 A,.slice ae E.length ce,.slice ai I.length ci,.slice ao O.length co] 53)).alloc (.cells #[.int .i64 B,.slice ae' E'.length ce',.slice ai' I'.length ci',.slice ao' O'.length co'] 53)).alloc (.cells #[.int .i64 0,.slice none 0 0,.slice none 0 0,.slice none 0 0] 53))=u0 at *
 have hlow0:=kR.lt
 refine (HBS.out u0 (HRA.out.keep hB) (HRB.out.keep hB)).mono ?_
 rintro e u1 ⟨x1,y1,x2,y2,x3,y3,rfl,hg1,hb1⟩
 obtain ⟨L3,hL3⟩:∃ L,E ++ E'.map (mvE (fromL A B))=L:=⟨_,rfl⟩
 rw [hL3] at hg1 ⊢
 dsimp only [List.length_nil] at hg1 ⊢
 have hcast:((A+B:Nat):Int)=(A:Int)+B:=by omega
 simp only [hcast] at hg1 ⊢
 clear hcast
 have hA4:=alloc_below u1 (.cells #[.int .i64 ((A:Int)+B),.slice x1 L3.length y1,.slice x2 0 y2,.slice x3 0 y3] 53)
 have kO:=Bk.new u1 53 #[.int .i64 ((A:Int)+B),.slice x1 L3.length y1,.slice x2 0 y2,.slice x3 0 y3]
 have kA1:=kA.keep hb1
 have kB1:=kB.keep hb1
 obtain ⟨iA,-,zA⟩:=kA1.cell
 obtain ⟨iB,-,zB⟩:=kB1.cell
 have a0:=iA 0
 have b0:=iB 0
 simp at a0 b0
 clear iA iB
 go_wp2_with fail
 have hbu1:=hb1.size
 have hB1:=hB.trans (hb1.mono hB.size)
 have hB4:=hB1.trans (hA4.mono hB1.size)
 replace kA:=kA1.keep hA4
 replace kB:=kB1.keep hA4
 replace kR:=(kR.keep hb1).keep hA4
 replace hg1:=(hg1.ed.keep hA4)
 have HLW:=Lib.hid (And.intro hlow0 hbu1)
 clear kA1 kB1 hb1 hbu1 hA4 hB1 a0 b0 zA zB
 generalize (u1.alloc (.cells #[.int .i64 ((A:Int)+B),.slice x1 L3.length y1,.slice x2 0 y2,.slice x3 0 y3] 53))=v1 at *
 generalize u1.heap.size=bO at *
 refine (from_any A B v1 (by omega) (by omega)).mono ?_
 rintro e wr ⟨v6,rfl,hr6,hb6⟩
 obtain ⟨a6,c6,rfl⟩:=hr6.slice
 rw [fromL_len] at *
 have hBw:=hB4.trans (hb6.mono hB4.size)
 replace kA:=kA.keep hb6
 replace kB:=kB.keep hb6
 replace kR:=kR.keep hb6
 have kOlt:=kO.lt
 replace kO:=kO.keep hb6
 have HED:=Lib.hid (hg1.keep hb6)
 have HV1:=Lib.hid (And.intro hb6.size (show bO<v1.heap.size from kOlt))
 clear hg1 hb6 hB4 kOlt
 obtain ⟨iA,-,zA⟩:=kA.cell
 have a2:=iA 2
 have a3:=iA 3
 obtain ⟨iB,-,zB⟩:=kB.cell
 have b2:=iB 2
 have b3:=iB 3
 simp at a2 a3 b2 b3
 clear iA iB
 go_wp2_with fail
 have hneA:¬ w.heap.size=bO:=by have:=HLW.out;omega
 have hneB:¬ w.heap.size+1=bO:=by have:=HLW.out;omega
 have bw:∀ {u:World},Below wr.heap.size wr u → Below w.heap.size w u:=fun h=>hBw.trans (h.mono hBw.size)
 have bd:∀ {u:World},Below wr.drew.heap.size wr.drew u → Below wr.heap.size wr u:=fun h=>(Below.refl wr.heap.size wr).drew.trans (h.mono (by simp))
 have hli:I.length≤12∧O.length≤12∧I'.length≤12∧O'.length≤12:=by
  have h1:=grB_parts HG.out.1
  have h2:=grB_parts HG.out.2
  exact ⟨h1.2.2.1,h1.2.2.2.1,h2.2.2.1,h2.2.2.2.1⟩
 refine region_acts (C:=Exc ((fun j=>j=bO)) _) 6 [0,1,2,3,4,5,6,7,8,9,10,11,12,13,14,15,16,17,18,19] (by kernel_rfl) (by kernel_rfl) (Exc.grows _ _) (Exc.refl _ _) ?_
 iterate 5 (apply x_sT rfl rfl rfl;(focus intro u hc' hf';(try simp only [World.size_drew] at hc' hf');go_simp <;> rfl);intro K hK;go_simp;apply hK;clear hK K)
 refine x_call rfl rfl rfl (Exc.grows _ _) (Exc.refl _ _) 248 (fun K hK=>?_);apply Exists.intro;refine ⟨fun w' hw'=>?_,fun wa hwa hbwa=>?_⟩;(focus go_simp;rfl);refine (mapped_any _ _ (fromL A B) I' _ (hr6.keep (bd hbwa)).at (HRB.out.inn.keep (bw (bd hbwa))) (fun k hk=>by have:=HWB.out.from A k (mem_pl.2 (.inl hk));exact this) (by omega) (by rw [fromL_len];omega)).mono ?_;rintro e w3 ⟨v3,rfl,hr3,hb3⟩;refine ⟨_,rfl,hb3,fun hx=>?_⟩;go_simp;apply hK;clear hK K
 obtain ⟨s3,t3,rfl⟩:=hr3.slice
 have h13:=(bd hbwa).trans (hb3.mono (bd hbwa).size)
 refine x_make rfl rfl rfl (Exc.grows _ _) (hx) (fun b=>.slice (some ⟨b,0,none⟩) 2 2) (fun K hK=>?_)
 apply Exists.intro
 refine ⟨fun w' hw'=>?_,fun m1 w4 hw4 hb34 hbo1 hN1 hn1=>?_⟩
 ·obtain ⟨hc',hf'⟩:=hw'.cell
  try simp only [World.size_drew] at hc' hf'
  go_simp
  rfl
 go_simp
 refine hK _ _ _ ?_
 clear hK K
 have h14:=h13.trans (hb34.mono h13.size)
 refine x_call rfl rfl rfl (Exc.grows _ _) (hw4) 251 (fun K hK=>?_);apply Exists.intro;refine ⟨fun w' hw'=>?_,fun wb hwb hbwb=>?_⟩;(focus go_simp;rfl);refine (joined_any _ [I,pickL (fromL A B) I'] _ (ls_two ((hbwb.block m1 (made_cell hbo1).2.2).trans hbo1) (HRA.out.inn.keep (bw (h14.trans (hbwb.mono h14.size)))) ((hr3.keep hb34).keep hbwb).at) (by simp) (by simp [pickL_len];omega)).mono ?_;rintro e w5 ⟨v5,rfl,hr5,hb5⟩;refine ⟨_,rfl,hb5,fun hx=>?_⟩;go_simp;apply hK;clear hK K
 obtain ⟨L1,hL1⟩:∃ L,I ++ pickL (fromL A B) I'=L:=⟨_,rfl⟩
 rw [show [I,pickL (fromL A B) I'].flatten=I ++ pickL (fromL A B) I' by simp,hL1] at hr5
 obtain ⟨s5,t5,rfl⟩:=hr5.slice
 have h1b:=h14.trans (hbwb.mono h14.size)
 have h15:=h1b.trans (hb5.mono h1b.size)
 iterate 5 (apply x_sT rfl rfl rfl;(focus intro u hc' hf';(try simp only [World.size_drew] at hc' hf');go_simp <;> rfl);intro K hK;go_simp;apply hK;clear hK K)
 refine x_call rfl rfl rfl (Exc.grows _ _) (hx) 248 (fun K hK=>?_);apply Exists.intro;refine ⟨fun w' hw'=>?_,fun wc hwc hbwc=>?_⟩;(focus go_simp;rfl);refine (mapped_any _ _ (fromL A B) O' _ (hr6.keep (h15.trans (hbwc.mono h15.size))).at (HRB.out.out.keep (bw (h15.trans (hbwc.mono h15.size)))) (fun k hk=>by have:=HWB.out.from A k (mem_pl.2 (.inr (.inl hk)));exact this) (by omega) (by rw [fromL_len];omega)).mono ?_;rintro e w7 ⟨v7,rfl,hr7,hb7⟩;refine ⟨_,rfl,hb7,fun hx=>?_⟩;go_simp;apply hK;clear hK K
 obtain ⟨s7,t7,rfl⟩:=hr7.slice
 have h1c:=h15.trans (hbwc.mono h15.size)
 have h17:=h1c.trans (hb7.mono h1c.size)
 refine x_make rfl rfl rfl (Exc.grows _ _) (hx) (fun b=>.slice (some ⟨b,0,none⟩) 2 2) (fun K hK=>?_)
 apply Exists.intro
 refine ⟨fun w' hw'=>?_,fun m2 w8 hw8 hb78 hbo2 hN2 hn2=>?_⟩
 ·obtain ⟨hc',hf'⟩:=hw'.cell
  try simp only [World.size_drew] at hc' hf'
  go_simp
  rfl
 go_simp
 refine hK _ _ _ ?_
 clear hK K
 have h18:=h17.trans (hb78.mono h17.size)
 refine x_call rfl rfl rfl (Exc.grows _ _) (hw8) 251 (fun K hK=>?_);apply Exists.intro;refine ⟨fun w' hw'=>?_,fun wd hwd hbwd=>?_⟩;(focus go_simp;rfl);refine (joined_any _ [O,pickL (fromL A B) O'] _ (ls_two ((hbwd.block m2 (made_cell hbo2).2.2).trans hbo2) (HRA.out.out.keep (bw (h18.trans (hbwd.mono h18.size)))) ((hr7.keep hb78).keep hbwd).at) (by simp) (by simp [pickL_len];omega)).mono ?_;rintro e w9 ⟨v9,rfl,hr9,hb9⟩;refine ⟨_,rfl,hb9,fun hx=>?_⟩;go_simp;apply hK;clear hK K
 obtain ⟨L2,hL2⟩:∃ L,O ++ pickL (fromL A B) O'=L:=⟨_,rfl⟩
 rw [show [O,pickL (fromL A B) O'].flatten=O ++ pickL (fromL A B) O' by simp,hL2] at hr9
 obtain ⟨s9,t9,rfl⟩:=hr9.slice
 have h1d:=h18.trans (hbwd.mono h18.size)
 have h19:=h1d.trans (hb9.mono h1d.size)
 have r5:=(((((hr5.keep hbwc).keep hb7).keep hb78).keep hbwd).keep hb9).mono (B':=v1.heap.size) (by have:=h1b.size;have:=HV1.out;omega)
 have r9:=hr9.mono (B':=v1.heap.size) (by have:=h1d.size;have:=HV1.out;omega)
 iterate 1 (apply x_sT rfl rfl rfl;(focus intro u hc' hf';(try simp only [World.size_drew] at hc' hf');go_simp <;> rfl);intro K hK;go_simp;apply hK;clear hK K)
 refine x_do rfl rfl rfl (Exc.grows _ _) hx (fun K hK=>?_)
 intro wA hwA hbA
 have kO6:=(kO.keep h19).keep hbA
 obtain ⟨n0,n1,n2⟩:=kO6.cell
 refine ⟨wA.setCell ⟨bO,2,none⟩ (.slice s5 L1.length t5),?_,⟨exc_set hwA (.inr rfl) _,by simp,fun j hj _ _=>by rw [Below.heap_setCell _ _ _ _ (by show ¬ _=_;intro hh;have:=kO.lt;simp only [World.size_drew] at hj hh;omega)]⟩,?_⟩
 ·go_simp
 go_simp
 refine hK _ _ _ ?_
 clear hK K
 have hxA:Exc (fun j=>j=bO) wr.drew (wA.setCell ⟨bO,2,none⟩ (.slice s5 L1.length t5)):=exc_set hwA (.inr rfl) _
 iterate 1 (apply x_sT rfl rfl rfl;(focus intro u hc' hf';(try simp only [World.size_drew] at hc' hf');go_simp <;> rfl);intro K hK;go_simp;apply hK;clear hK K)
 refine x_do rfl rfl rfl (Exc.grows _ _) hxA (fun K hK=>?_)
 intro wB hwB hbB
 have kO7:=(kO6.set 2 (.slice s5 L1.length t5)).keep hbB
 obtain ⟨l0,l1,l2⟩:=kO7.cell
 refine ⟨wB.setCell ⟨bO,3,none⟩ (.slice s9 L2.length t9),?_,⟨exc_set hwB (.inr rfl) _,by simp,fun j hj _ _=>by rw [Below.heap_setCell _ _ _ _ (by show ¬ _=_;intro hh;have:=kO.lt;simp only [World.size_drew] at hj hh;omega)]⟩,?_⟩
 ·go_simp
 go_simp
 refine hK _ _ _ ?_
 clear hK K
 refine x_nil ?_
 have k7:Bk (wB.setCell ⟨bO,3,none⟩ (.slice s9 L2.length t9)) bO 53 #[.int .i64 ((A:Int)+B),.slice x1 L3.length y1,.slice s5 L1.length t5,.slice s9 L2.length t9]:=kO7.set 3 _
 have hwO:w.heap.size≤bO:=by have:=HLW.out;omega
 have hneR:¬ w.heap.size+1+1=bO:=by have:=HLW.out;omega
 have h1A:=h19.trans (hbA.mono h19.size)
 have kR7:=(((kR.keep h1A).other ⟨bO,2,none⟩ (.slice s5 L1.length t5) hneR).keep hbB).other ⟨bO,3,none⟩ (.slice s9 L2.length t9) hneR
 have hbW7:Below w.heap.size w (wB.setCell ⟨bO,3,none⟩ (.slice s9 L2.length t9)):=by
  have h6:=bw h1A
  exact ((h6.setCell hwO _).trans (hbB.mono (by simp;exact h6.size))).setCell hwO _
 have HALL:=Lib.hid (And.intro (show GrO (wB.setCell ⟨bO,3,none⟩ (.slice s9 L2.length t9)) u0.heap.size (.slice x1 L3.length y1) (.slice s5 L1.length t5) (.slice s9 L2.length t9) G from by
  rw [← HSQ.out]
  unfold prI bsI
  simp only [Int.toNat_natCast]
  rw [hL3,hL1,hL2]
  refine ⟨?_,?_,?_⟩
  ·exact (((HED.out.keep h1A).setB kO6 (by decide) (by decide) 2 (.slice s5 L1.length t5)).keep hbB).setB kO7 (by decide) (by decide) 3 (.slice s9 L2.length t9)
  ·exact ((((r5.keep hbA).setB kO6 (by decide) 2 (.slice s5 L1.length t5)).keep hbB).setB kO7 (by decide) 3 (.slice s9 L2.length t9)).mono (by have:=HV1.out;have:=HLW.out;omega)
  ·exact ((((r9.keep hbA).setB kO6 (by decide) 2 (.slice s5 L1.length t5)).keep hbB).setB kO7 (by decide) 3 (.slice s9 L2.length t9)).mono (by have:=HV1.out;have:=HLW.out;omega)) hbW7)
 have HW:=Lib.hid (show G=⟨(A:Int)+B,L3,L1,L2⟩ from by
  rw [← HSQ.out]
  unfold prI bsI
  simp only [Int.toNat_natCast]
  rw [hL3,hL1,hL2,Int.natCast_add])
 have hlow:=kR7.lt
 have HV:=Lib.hid (show w.heap.size+1+1<u0.heap.size∧w.heap.size≤u0.heap.size from ⟨HLW.out.1,by have:=HLW.out;omega⟩)
 clear kO7 kO6 n0 n1 n2 l0 l1 l2 hwB hwA hbA hbB hxA hx h19 h1d h18 h17 h1c h15 h1b h14 h13 hw8 hw4 r5 r9 hr5 hr7 hr9 hr3 hr6 hb3 hb34 hb5 hb7 hb78 hb9 hwa hbwa hwb hbwb hwc hbwc hwd hbwd hbo1 hbo2 kO kA kB kR a2 a3 b2 b3 zA zB h1A hbW7 HED bw bd hBw
 generalize (wB.setCell ⟨bO,3,none⟩ (.slice s9 L2.length t9))=W7 at *
 obtain ⟨i7,f7,z7⟩:=k7.cell
 obtain ⟨iR,fR,zR⟩:=kR7.cell
 go_wp2
 refine bodyPost_ret (v:=.agg #[.int .i64 ((A:Int)+B),.slice x1 L3.length y1,.slice s5 L1.length t5,.slice s9 L2.length t9]) (by simp [results,Tryz.results187,go_sem,iR]) rfl ⟨_,_,_,by rw [HW.out],?_,?_⟩
 ·exact (HALL.out.1.res HV.out.1 _ _ _ _).mono HV.out.2
 ·exact below_res HALL.out.2 (by omega) _ _ _ _
end Go.Proofs.YtbljmfcifljkaaaGreatDoor
/-
  Stacks of graphs; own rows of graphs grow. Own work.
-/
namespace Go.Proofs.YtbljmfcifljkaaaGreatDoor
open Go.RowKit
set_option maxRecDepth 100000
set_option maxHeartbeats 4000000
structure GkS (w:World) (B:Nat) (v:Value) (xs:List GrV):Prop where
 row:w.ownsRow B 53 4 v xs.length (xs.flatMap grCells)
 rws:∀ x ∈ xs,GrO w B x.2.1 x.2.2.1 x.2.2.2 x.1
theorem GkS.keep {w w':World} {B:Nat} {v:Value} {xs:List GrV} (hb:Below w.heap.size w w') (h:GkS w B v xs):GkS w' B v xs:=⟨owns_keep hb h.row,fun x hx=>(h.rws x hx).keep hb⟩
theorem GkS.shape {w:World} {B:Nat} {v:Value} {xs:List GrV} (h:GkS w B v xs):∃ a cap,v=.slice a xs.length cap:=by
 rcases h.row.2 with ⟨hv,he⟩|⟨g,cap,cur,hv,_⟩
 ·exact ⟨none,0,by rw [hv,he]⟩
 ·exact ⟨_,_,hv⟩
theorem GkS.empty (w:World) (B b:Nat) (hb:b=w.heap.size) (hB:B≤b):GkS (w.alloc (.cells #[] 53)) B (.slice (some ⟨b,0,none⟩) 0 0) [] :=
 ⟨⟨rfl,.inr ⟨b,0,#[],rfl,hB,by subst hb;exact Bk.new w _ _,Nat.le_refl _,by unfold maxLen;omega,rfl,rfl⟩⟩,fun x hx=>by cases hx⟩
theorem GkS.take {w:World} {B g cap:Nat} {xs ys:List GrV} (h:GkS w B (.slice (some ⟨g,0,none⟩) (xs ++ ys).length cap) (xs ++ ys)):GkS w B (.slice (some ⟨g,0,none⟩) xs.length cap) xs:=by
 refine ⟨?_,fun x hx=>h.rws x (List.mem_append_left _ hx)⟩
 have h0:=owns_take h.row xs.length (by rw [List.length_append];omega)
 rw [List.flatMap_append,List.take_left' (by have:=flat_length grCells_len xs;omega)] at h0
 exact h0
theorem GrO.gkGrown {w w':World} {B B2 n:Nat} {x y z v:Value} {g:GrI} {zs:List Value} (h:GrO w B x y z g) (hr:w.ownsRow B2 53 4 v n zs) (hg:w.grownBy w' v.ownBlock):GrO w' B x y z g:=by
 have mv:∀ (u:Value) l,Rw w B u l → Rw w' B u l:=fun u l hu=>hu.grown hg fun k hk e=>owns_ne hu hr (by decide) k hk e
 obtain ⟨⟨xs,h1,h2,h3⟩,h4,h5⟩:=h
 exact ⟨⟨xs,h1,owns_grow h2 hg (fun k hk e=>owns_ne h2 hr (by decide) k hk e),fun x hx=>⟨mv _ _ (h3 x hx).1,mv _ _ (h3 x hx).2⟩⟩,mv _ _ h4,mv _ _ h5⟩
theorem gr_one {w:World} {B:Nat} {xs:List GrV} (h:∀ x ∈ xs,GrO w B x.2.1 x.2.2.1 x.2.2.2 x.1):∀ u ∈ xs.flatMap grCells,u.oneCell'=true:=grCells_one fun x hx=>(h x hx).at
theorem gk_append {w:World} {ops:Array Oper} {rest:List Oper} {o:Oper} {a:Act} {Q:Exit → Act → World → Prop} (hgd:o.guard=none) (s x:Operand)
  (ho:o.op=.call { callee:=.builtin .append,args:=#[s,x],argTypes:=#[50,50] })
  (B:Nat) (v:Value) (xs:List GrV) (hs:a.eval s=v) (hrow:GkS w B v xs) (b:Nat) (y:GrV) (hx:a.eval x=.slice (some ⟨b,0,none⟩) 1 1) (hb:Bk w b 53 (grCells y).toArray) (hy:GrO w B y.2.1 y.2.2.1 y.2.2.2 y.1) (hB:B≤w.heap.size) (hl:xs.length≤100000)
  (H:∀ v' w',GkS w' B v' (xs ++ [y]) → w.grownBy w' v.ownBlock → (v'.ownBlock=v.ownBlock∨v'.ownBlock=some w.heap.size) → wpList Tryz.prog ops Q rest (a.put o.dst v') w'):wpList Tryz.prog ops Q (o :: rest) a w:=by
 obtain ⟨i0,hi,hz0,hz1,hz2⟩:=info_parts infoGraph
 have hsrc:SrcAt w 4 (.slice (some ⟨b,0,none⟩) 1 1) 1 (grCells y):=⟨rfl,.inr ⟨_,_,rfl,fun j u hj=>by
  rw [addr_add,Nat.zero_add,hb.cell.1 j]
  simpa using hj⟩⟩
 have h1:∀ u ∈ grCells y,u.oneCell'=true:=fun u hu=>gr_one (xs:=[y]) (B:=B) (fun x hx=>by obtain rfl:=List.mem_singleton.1 hx;exact hy) u (by simpa using hu)
 refine wpList_append_src hgd s x 50 ho B 53 i0 _ 4 80 Tryz.underlying50 hi hz0 hz1 hz2 rfl (by decide) v xs.length _ hs hrow.row _ 1 _ hx hsrc h1 (by unfold maxLen;omega) (by omega) hB ?_
 intro v' w' r1 r2 r3
 refine H v' w' ⟨?_,fun z hz=>?_⟩ r2 r3
 ·rw [List.length_append,List.flatMap_append]
  simpa using r1
 ·rcases List.mem_append.1 hz with hz|hz
  ·exact (hrow.rws z hz).gkGrown hrow.row r2
  ·obtain rfl:=List.mem_singleton.1 hz
   exact hy.gkGrown hrow.row r2
theorem GkS.cells {w:World} {B g cap:Nat} {xs:List GrV} (h:GkS w B (.slice (some ⟨g,0,none⟩) xs.length cap) xs) (i:Nat) (hi:i<xs.length) :
  w.cell? ⟨g,i * 4,none⟩=some (.int .i64 xs[i].1.wires)∧w.cell? ⟨g,i * 4+1,none⟩=some xs[i].2.1∧w.cell? ⟨g,i * 4+2,none⟩=some xs[i].2.2.1∧w.cell? ⟨g,i * 4+3,none⟩=some xs[i].2.2.2:=by
 have c:=fun j hj=>owns_cell grCells_len h.row i j hi hj
 exact ⟨c 0 (by omega),c 1 (by omega),c 2 (by omega),c 3 (by omega)⟩
theorem GkS.blk {w:World} {B:Nat} {v:Value} {xs:List GrV} (h:GkS w B v xs) (hx:0<xs.length):∃ g cap,v=.slice (some ⟨g,0,none⟩) xs.length cap∧xs.length≤cap∧B≤g∧g<w.heap.size:=by
 rcases h.row.2 with ⟨_,he⟩|⟨g,cap,cur,hv,hb,hg,hc,_⟩
 ·omega
 ·exact ⟨g,cap,hv,hc,hb,(Array.getElem?_eq_some_iff.1 hg).1⟩
def MdR:List GrI → List W2 → Prop
 | [],[]=>True
 | g :: gs,x :: xs=>MdG g x∧MdR gs xs
 | _,_=>False
theorem MdR.len:∀ {gs:List GrI} {xs:List W2},MdR gs xs → gs.length=xs.length
 | [],[],_=>rfl
 | g :: gs,x :: xs,h=>by simp only [List.length_cons,MdR.len h.2]
 | [],_ :: _,h=>by cases h
 | _ :: _,[],h=>by cases h
def mkG (ns:List Nd):Option GrI:=(grGo ns []).bind List.head?
def gOr (r:Option GrI):GrI:=r.getD ⟨0,[],[],[]⟩
def GoP (r:Option GrI) (w:World) (e:Ending) (w':World):Prop:=∃ ve vi vo,e=.returned (.tuple #[.agg #[.int .i64 (gOr r).wires,ve,vi,vo],.bool r.isSome])∧GrO w' w.heap.size ve vi vo (gOr r)∧Below w.heap.size w w'
theorem mkG_none {ns:List Nd} (h:grGo ns []=none):mkG ns=none:=by unfold mkG;rw [h];rfl
theorem mkG_some {ns:List Nd} {g:GrI} (h:grGo ns []=some [g]):mkG ns=some g:=by unfold mkG;rw [h];rfl
end Go.Proofs.YtbljmfcifljkaaaGreatDoor
