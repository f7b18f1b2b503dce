/-
  The reference's hgGlue, hgSeq and hgIf. Own work.
-/
import Derived.Test.YtbljmfcifljkaaaGreatDoorYGF
import Derived.Test.YtbljmfcifljkaaaGreatDoorYRgU
import Derived.Test.YtbljmfcifljkaaaGreatDoorYMS
import Derived.Test.YtbljmfcifljkaaaGreatDoorYGD
set_option linter.all false
set_option maxRecDepth 100000
set_option maxHeartbeats 8000000
namespace Go.Proofs.YtbljmfcifljkaaaGreatDoor
open Go.RowKit
set_option maxRecDepth 100000
set_option maxHeartbeats 1000000
theorem hgGlue_any (W:Nat) (E:List EdI) (I O:List Int) (ve vi vo va vb:Value) (ps:List (Nat × Nat)) (w:World) (hR:GrR w ve vi vo ⟨W,E,I,O⟩) (hA:GrW ⟨W,E,I,O⟩ W)
  (ha:IntsAt w va (nI (ps.map Prod.fst))) (hb:IntsAt w vb (nI (ps.map Prod.snd))) (hp:∀ p ∈ ps,p.1<W∧p.2<W) (hl:ps.length≤1000) :
  Calls Tryz.prog 293 #[.agg #[.int .i64 W,ve,vi,vo],va,vb] w (GrMk (glI ⟨W,E,I,O⟩ W ps) w):=by
 obtain ⟨ae,ce,rfl⟩:=hR.ed.slice
 obtain ⟨ai,ci,rfl⟩:=hR.inn.slice
 obtain ⟨ao,co,rfl⟩:=hR.out.slice
 obtain ⟨a1,c1,rfl⟩:=ha.slice
 obtain ⟨a2,c2,rfl⟩:=hb.slice
 dsimp only at hR
 obtain ⟨G,hG⟩:∃ G,glI ⟨W,E,I,O⟩ W ps=G:=⟨_,rfl⟩
 have hA1:=alloc_below w (.cells #[.int .i64 W,.slice ae E.length ce,.slice ai I.length ci,.slice ao O.length co] 53)
 have hA2:=alloc_below (w.alloc (.cells #[.int .i64 W,.slice ae E.length ce,.slice ai I.length ci,.slice ao O.length co] 53)) (.cells #[.int .i64 0,.slice none 0 0,.slice none 0 0,.slice none 0 0] 53)
 have hB:=hA1.trans (hA2.mono hA1.size)
 have kR:=Bk.new (w.alloc (.cells #[.int .i64 W,.slice ae E.length ce,.slice ai I.length ci,.slice ao O.length co] 53)) 53 #[.int .i64 0,.slice none 0 0,.slice none 0 0,.slice none 0 0]
 simp only [World.size_alloc] at kR
 have HQ:=Lib.hid (fun u (hb2:Below w.heap.size w u)=>hgGlued_any W E I O _ _ _ _ _ ps u (hR.keep hb2) hA (ha.keep hb2) (hb.keep hb2) hp hl)
 rw [hG] at HQ ⊢
 generalize glT ⟨W,E,I,O⟩ W ps=T at *
 generalize (nI (ps.map Prod.fst)).length=m1 at *
 generalize (nI (ps.map Prod.snd)).length=m2 at *
 clear hA1 hA2 hG hR hA ha hb hp
 go_enter Tryz.func293,Tryz.ntmps293
 go_wp2_with fail
 generalize ((w.alloc (.cells #[.int .i64 W,.slice ae E.length ce,.slice ai I.length ci,.slice ao O.length co] 53)).alloc (.cells #[.int .i64 0,.slice none 0 0,.slice none 0 0,.slice none 0 0] 53))=u0 at *
 have hlow:=kR.lt
 refine (HQ.out u0 hB).mono ?_
 rintro e u1 ⟨we,wi,wo,wt,rfl,hg,ht,hb⟩
 obtain ⟨⟨p1,q1,rfl⟩,⟨p2,q2,rfl⟩,p3,q3,rfl⟩:=hg.at.slices
 obtain ⟨pt,qt,rfl⟩:=ht.slice
 have kR2:=kR.keep hb
 obtain ⟨iR,fR,zR⟩:=kR2.cell
 have HG:=Lib.hid hg
 have HB:=Lib.hid (hB.trans (hb.mono hB.size))
 obtain ⟨gw,ge,gi,gq⟩:=G
 dsimp only
 clear hg hb kR kR2 ht
 go_wp2
 refine bodyPost_ret (v:=.agg #[.int .i64 gw,.slice p1 ge.length q1,.slice p2 gi.length q2,.slice p3 gq.length q3]) (by simp [results,Tryz.results293,go_sem,iR,fR,zR]) rfl ⟨_,_,_,rfl,((HG.out.res hlow _ _ _ _).keep (alloc_below _ _)).mono hB.size,?_⟩
 have h4:=below_res HB.out (b:=w.heap.size+1) (by omega) (.int .i64 gw) (.slice p1 ge.length q1) (.slice p2 gi.length q2) (.slice p3 gq.length q3)
 exact h4.trans ((alloc_below _ _).mono h4.size)
theorem ints_take {w:World} {a:Option Addr} {n cap:Nat} {xs ys:List Int} (h:IntsAt w (.slice a n cap) (xs ++ ys)):IntsAt w (.slice a xs.length cap) xs:=by
 obtain ⟨a',cap',he,hc,hat⟩:=h
 simp only [Value.slice.injEq] at he
 obtain ⟨rfl,_,rfl⟩:=he
 refine ⟨_,_,rfl,by simp at hc;omega,fun i hi=>?_⟩
 obtain ⟨b,o,h1,hl,h2⟩:=hat i (by simp;omega)
 exact ⟨b,o,h1,hi,by rw [List.getElem_append_left hi] at h2;exact h2⟩
theorem ints_from {w:World} {a:Option Addr} {n cap:Nat} {xs ys:List Int} (h:IntsAt w (.slice a n cap) (xs ++ ys)):IntsAt w (.slice (if cap=xs.length then a else Option.map (fun x=>x.add xs.length) a) ys.length (cap - xs.length)) ys:=by
 obtain ⟨a',cap',he,hc,hat⟩:=h
 simp only [Value.slice.injEq] at he
 obtain ⟨rfl,_,rfl⟩:=he
 rw [List.length_append] at hc
 refine ⟨_,_,rfl,by omega,fun i hi=>?_⟩
 obtain ⟨b,o,h1,hl,h2⟩:=hat (xs.length+i) (by simp;omega)
 rw [if_neg (by omega),h1]
 refine ⟨b,o+xs.length,by rw [Option.map_some,addr_add],hi,?_⟩
 rw [List.getElem_append_right (by omega)] at h2
 simp only [Nat.add_sub_cancel_left] at h2
 rw [show o+xs.length+i * 1=o+(xs.length+i) * 1 by omega]
 exact h2
theorem hgSeq_any (A B:Nat) (E E':List EdI) (I I' O O':List Int) (ve vi vo ve' vi' vo':Value) (w:World) (hR:GrR w ve vi vo ⟨A,E,I,O⟩) (hR':GrR w ve' vi' vo' ⟨B,E',I',O'⟩)
  (ga:grB ⟨A,E,I,O⟩=true) (gb:grB ⟨B,E',I',O'⟩=true) (hfit:O.length=I'.length) :
  Calls Tryz.prog 236 #[.agg #[.int .i64 A,ve,vi,vo],.agg #[.int .i64 B,ve',vi',vo']] w (GrMk (sqI ⟨A,E,I,O⟩ ⟨B,E',I',O'⟩) w):=by
 obtain ⟨G,hG⟩:∃ G,sqI ⟨A,E,I,O⟩ ⟨B,E',I',O'⟩=G:=⟨_,rfl⟩
 rw [hG]
 have HSQ:=Lib.hid hG
 clear hG
 obtain ⟨ae,ce,rfl⟩:=hR.ed.slice
 obtain ⟨ai,ci,rfl⟩:=hR.inn.slice
 obtain ⟨ao,co,rfl⟩:=hR.out.slice
 obtain ⟨ae',ce',rfl⟩:=hR'.ed.slice
 obtain ⟨ai',ci',rfl⟩:=hR'.inn.slice
 obtain ⟨ao',co',rfl⟩:=hR'.out.slice
 have hA:=grB_w ga rfl
 have hB':=grB_w gb rfl
 dsimp only at hR hR'
 have hAle:=hA.le
 have hBle:=hB'.le
 have hA1:=alloc_below w (.cells #[.int .i64 A,.slice ae E.length ce,.slice ai I.length ci,.slice ao O.length co] 53)
 have hA2:=alloc_below (w.alloc (.cells #[.int .i64 A,.slice ae E.length ce,.slice ai I.length ci,.slice ao O.length co] 53)) (.cells #[.int .i64 B,.slice ae' E'.length ce',.slice ai' I'.length ci',.slice ao' O'.length co'] 53)
 have hA3:=alloc_below ((w.alloc (.cells #[.int .i64 A,.slice ae E.length ce,.slice ai I.length ci,.slice ao O.length co] 53)).alloc (.cells #[.int .i64 B,.slice ae' E'.length ce',.slice ai' I'.length ci',.slice ao' O'.length co'] 53)) (.cells #[.int .i64 0,.slice none 0 0,.slice none 0 0,.slice none 0 0] 53)
 have hB:=hA1.trans ((hA2.mono hA1.size).trans (hA3.mono (by simp;omega)))
 have kA:=((Bk.new w 53 #[.int .i64 A,.slice ae E.length ce,.slice ai I.length ci,.slice ao O.length co]).keep hA2).keep hA3
 have kB:=(Bk.new (w.alloc (.cells #[.int .i64 A,.slice ae E.length ce,.slice ai I.length ci,.slice ao O.length co] 53)) 53 #[.int .i64 B,.slice ae' E'.length ce',.slice ai' I'.length ci',.slice ao' O'.length co']).keep hA3
 have kR:=Bk.new ((w.alloc (.cells #[.int .i64 A,.slice ae E.length ce,.slice ai I.length ci,.slice ao O.length co] 53)).alloc (.cells #[.int .i64 B,.slice ae' E'.length ce',.slice ai' I'.length ci',.slice ao' O'.length co'] 53)) 53 #[.int .i64 0,.slice none 0 0,.slice none 0 0,.slice none 0 0]
 simp only [World.size_alloc] at kR kB
 clear hA1 hA2 hA3
 have HWA:=Lib.hid hA
 have HWB:=Lib.hid hB'
 have HRA:=Lib.hid hR
 have HRB:=Lib.hid hR'
 have HG:=Lib.hid (And.intro ga (And.intro gb hfit))
 clear hA hB' hR hR' ga gb hfit
 have HBS:=Lib.hid (fun u (h:GrR u (.slice ae E.length ce) (.slice ai I.length ci) (.slice ao O.length co) ⟨A,E,I,O⟩) (h':GrR u (.slice ae' E'.length ce') (.slice ai' I'.length ci') (.slice ao' O'.length co') ⟨B,E',I',O'⟩)=>(hgBeside_any A B E E' I I' O O' _ _ _ _ _ _ u h h' HWA.out HWB.out).mono (R':=GrMq _ u) fun _ _ h=>h.mq)
 go_enter Tryz.func236,Tryz.ntmps236
 go_wp2_with fail
 generalize (((w.alloc (.cells #[.int .i64 A,.slice ae E.length ce,.slice ai I.length ci,.slice ao O.length co] 53)).alloc (.cells #[.int .i64 B,.slice ae' E'.length ce',.slice ai' I'.length ci',.slice ao' O'.length co'] 53)).alloc (.cells #[.int .i64 0,.slice none 0 0,.slice none 0 0,.slice none 0 0] 53))=u0 at *
 have hlow0:=kR.lt
 refine (HBS.out u0 (HRA.out.keep hB) (HRB.out.keep hB)).mono ?_
 rintro e u1 ⟨x1,y1,x2,y2,x3,y3,rfl,hg1,hb1⟩
 dsimp only [bsI] at hg1 ⊢
 obtain ⟨L3,hL3⟩:∃ L,E ++ E'.map (mvE (fromL A B))=L:=⟨_,rfl⟩
 obtain ⟨X,hX⟩:∃ L,pickL (fromL A B) I'=L:=⟨_,rfl⟩
 obtain ⟨Y,hY⟩:∃ L,pickL (fromL A B) O'=L:=⟨_,rfl⟩
 obtain ⟨L1,hL1⟩:∃ L,I ++ X=L:=⟨_,rfl⟩
 obtain ⟨L2,hL2⟩:∃ L,O ++ Y=L:=⟨_,rfl⟩
 rw [hL3,hX,hY,hL1,hL2] at hg1 ⊢
 have hcast:((A+B:Nat):Int)=(A:Int)+B:=by omega
 simp only [hcast] at hg1 ⊢
 have HL:=Lib.hid (And.intro hL3 (And.intro hX (And.intro hY (And.intro hL1 hL2))))
 have hA4:=alloc_below u1 (.cells #[.int .i64 ((A:Int)+B),.slice x1 L3.length y1,.slice x2 L1.length y2,.slice x3 L2.length y3] 53)
 have kO:=Bk.new u1 53 #[.int .i64 ((A:Int)+B),.slice x1 L3.length y1,.slice x2 L1.length y2,.slice x3 L2.length y3]
 have kA1:=kA.keep hb1
 obtain ⟨iA,-,zA⟩:=kA1.cell
 have a2:=iA 2
 have a3:=iA 3
 simp at a2 a3
 clear iA hL3 hX hY hcast
 go_wp2_with fail
 have hbu1:=hb1.size
 have hB1:=hB.trans (hb1.mono hB.size)
 have hB4:=hB1.trans (hA4.mono hB1.size)
 replace kA:=kA1.keep hA4
 replace kR:=(kR.keep hb1).keep hA4
 have hg4:=hg1.keep hA4
 have HLW:=Lib.hid (And.intro hlow0 hbu1)
 clear kA1 hb1 hbu1 hA4 hB1 a2 a3 zA hg1
 generalize (u1.alloc (.cells #[.int .i64 ((A:Int)+B),.slice x1 L3.length y1,.slice x2 L1.length y2,.slice x3 L2.length y3] 53))=v1 at *
 generalize u1.heap.size=bO at *
 obtain ⟨iA,-,zA⟩:=kA.cell
 have a2:=iA 2
 have a3:=iA 3
 simp at a2 a3
 clear iA
 go_quiet (fail)
 have hq:=fun n=>And.intro (kO.keep (below_drewN (Below.refl _ _) n)) (And.intro (kR.keep (below_drewN (Below.refl _ _) n)) (And.intro (hg4.keep (below_drewN (Below.refl _ _) n)) (below_drewN hB4 n)))
 go_wp2_with fail
 generalize hv2:World.drewN v1 _=v2
 have hq2:=hq nq
 rw [hv2] at hq2
 obtain ⟨kO2,kR2,hg5,hB5⟩:=hq2
 have HLV:=Lib.hid (And.intro kO2.lt kR2.lt)
 clear hq hv2 kO kR kA a2 a3 zA hB4
 obtain ⟨iO,-,zO⟩:=kO2.cell
 have hc2:L1.length≤y2:=by obtain ⟨_,_,he,hc,_⟩:=hg4.inn.at;simp only [Value.slice.injEq] at he hc;omega
 have hc3:L2.length≤y3:=by obtain ⟨_,_,he,hc,_⟩:=hg4.out.at;simp only [Value.slice.injEq] at he hc;omega
 have hl1:I.length≤L1.length:=by rw [← hL1,List.length_append];omega
 have hl2:O.length≤L2.length:=by rw [← hL2,List.length_append];omega
 have c1:0≤(O.length:Int)∧(O.length:Int)≤(y3:Int):=by omega
 have c2:0≤(I.length:Int)∧(I.length:Int)≤(L1.length:Int):=by omega
 refine region_acts (C:=Exc (NoT) _) 6 [0,1,2,3,4,5,6,7,8,9,10,11] (by kernel_rfl) (by kernel_rfl) (Exc.grows _ _) (Exc.refl _ _) ?_
 iterate 4 (apply x_st rfl rfl rfl;(focus intro u hc' hf';go_simp <;> rfl);intro K hK;go_simp;apply hK;clear hK K)
 have bw:∀ {u:World},Below v2.drew.heap.size v2.drew u → Below w.heap.size w u:=fun h=>hB5.trans (((Below.refl v2.heap.size v2).drew.trans (h.mono (by simp))).mono hB5.size)
 have bd:∀ {u:World},Below v2.drew.heap.size v2.drew u → Below v2.heap.size v2 u:=fun h=>(Below.refl v2.heap.size v2).drew.trans (h.mono (by simp))
 have hiO:IntsAt v2 (.slice x3 O.length y3) O:=by have h:=hg5.out.at;simp only [← hL2] at h;exact ints_take h
 refine x_call rfl rfl rfl (Exc.grows _ _) (Exc.refl _ _) 292 (fun K hK=>?_);apply Exists.intro;refine ⟨fun w' hw'=>?_,fun wa hwa hbwa=>?_⟩;(focus go_simp;rfl);refine (l1Own_any _ O _ (hiO.keep (bd hbwa)) (by have:=HWA.out.ok.out;simp only at this;omega)).mono ?_;rintro e w3 ⟨v3,rfl,hr3,hb3⟩;refine ⟨_,rfl,hb3,fun hx=>?_⟩;go_simp;apply hK;clear hK K
 iterate 4 (apply x_st rfl rfl rfl;(focus intro u hc' hf';go_simp <;> rfl);intro K hK;go_simp;apply hK;clear hK K)
 have hiI:IntsAt v2 (.slice (if y2=I.length then x2 else Option.map (fun x=>x.add I.length) x2) (L1.length - I.length) (y2 - I.length)) X:=by
  have h:=hg5.inn.at
  simp only [← hL1] at h
  have h2:=ints_from h
  rwa [show X.length=L1.length - I.length by rw [← hL1,List.length_append];omega] at h2
 generalize (if y2=I.length then x2 else Option.map (fun x=>x.add I.length) x2)=p2 at *
 obtain ⟨a3,q3,rfl⟩:=hr3.slice
 have h13:=(bd hbwa).trans (hb3.mono (bd hbwa).size)
 have hxl:X.length≤100000:=by rw [← HL.out.2.1,pickL_len];have:=HWB.out.ok.inn;simp only at this;omega
 refine x_call rfl rfl rfl (Exc.grows _ _) (hx) 292 (fun K hK=>?_);apply Exists.intro;refine ⟨fun w' hw'=>?_,fun wb hwb hbwb=>?_⟩;(focus go_simp;rfl);refine (l1Own_any _ X _ (hiI.keep (h13.trans (hbwb.mono h13.size))) hxl).mono ?_;rintro e w4 ⟨v4,rfl,hr4,hb4⟩;refine ⟨_,rfl,hb4,fun hx=>?_⟩;go_simp;apply hK;clear hK K
 obtain ⟨a4,q4,rfl⟩:=hr4.slice
 iterate 2 (apply x_st rfl rfl rfl;(focus intro u hc' hf';go_simp <;> rfl);intro K hK;go_simp;apply hK;clear hK K)
 refine x_nil ?_
 have h1b:=h13.trans (hbwb.mono h13.size)
 have h14:=h1b.trans (hb4.mono h1b.size)
 have kO4:=kO2.keep h14
 have kR4:=kR2.keep h14
 have hg6:=hg5.keep h14
 have hB6:=hB5.trans (h14.mono hB5.size)
 have hr3':=((hr3.keep hbwb).keep hb4).mono (Nat.zero_le _)
 have hr4':=hr4.mono (Nat.zero_le _)
 clear hx hwa hbwa hwb hbwb hr3 hr4 hb3 hb4 h13 h1b h14 kO2 kR2 hg5 hB5 bw bd hiO hiI iO zO
 obtain ⟨iO,fO,zO⟩:=kO4.cell
 have c3:0≤(I.length:Int)∧(I.length:Int)≤(y2:Int):=by omega
 have c4:0≤(O.length:Int)∧(O.length:Int)≤(L2.length:Int):=by omega
 obtain ⟨p3,hif⟩:∃ p3,(if y3=O.length then x3 else Option.map (fun x=>x.add O.length) x3)=p3:=⟨_,rfl⟩
 go_wp2_with fail
 have kO5:Bk (w4.setCell ⟨bO,2,none⟩ (.slice x2 I.length y2)) bO 53 #[.int .i64 ((A:Int)+B),.slice x1 L3.length y1,.slice x2 I.length y2,.slice x3 L2.length y3]:=kO4.set 2 _
 have g7:=(hg6.setB kO4 (by decide) (by decide) 2 (.slice x2 I.length y2)).setB kO5 (by decide) (by decide) 3 (.slice p3 (L2.length - O.length) (y3 - O.length))
 have ra:=((hr3'.setB kO4 (by decide) 2 (.slice x2 I.length y2)).setB kO5 (by decide) 3 (.slice p3 (L2.length - O.length) (y3 - O.length))).at
 have rb:=((hr4'.setB kO4 (by decide) 2 (.slice x2 I.length y2)).setB kO5 (by decide) 3 (.slice p3 (L2.length - O.length) (y3 - O.length))).at
 have hwO:w.heap.size≤bO:=by have:=HLW.out;omega
 have hneR:¬ w.heap.size+1+1=bO:=by have:=HLW.out;omega
 have kR7:=(kR4.other ⟨bO,2,none⟩ (.slice x2 I.length y2) hneR).other ⟨bO,3,none⟩ (.slice p3 (L2.length - O.length) (y3 - O.length)) hneR
 have hB7:=(hB6.setCell (p:=⟨bO,2,none⟩) hwO (.slice x2 I.length y2)).setCell (p:=⟨bO,3,none⟩) hwO (.slice p3 (L2.length - O.length) (y3 - O.length))
 have gi:IntsAt ((w4.setCell ⟨bO,2,none⟩ (.slice x2 I.length y2)).setCell ⟨bO,3,none⟩ (.slice p3 (L2.length - O.length) (y3 - O.length))) (.slice x2 I.length y2) I:=by have h:=g7.inn.at;simp only [← hL1] at h;exact ints_take h
 have go':IntsAt ((w4.setCell ⟨bO,2,none⟩ (.slice x2 I.length y2)).setCell ⟨bO,3,none⟩ (.slice p3 (L2.length - O.length) (y3 - O.length))) (.slice p3 (L2.length - O.length) (y3 - O.length)) Y:=by
  have h:=g7.out.at
  have e:Y.length=L2.length - O.length:=by rw [← hL2,List.length_append];omega
  simp only at h
  have h2:=ints_from (xs:=O) (ys:=Y) (by rw [hL2];exact h)
  rw [hif,e] at h2
  exact h2
 have ge:=g7.ed.at
 have HALL:=Lib.hid (And.intro ge (And.intro gi (And.intro go' (And.intro ra (And.intro rb hB7)))))
 have hYl:Y.length=L2.length - O.length:=by rw [← hL2,List.length_append];omega
 clear g7 ra rb gi go' ge hB7 kO4 kO5 kR4 hr3' hr4' hif hg6 hB6 iO fO zO
 generalize ((w4.setCell ⟨bO,2,none⟩ (.slice x2 I.length y2)).setCell ⟨bO,3,none⟩ (.slice p3 (L2.length - O.length) (y3 - O.length)))=W7 at *
 have hOP:opI ⟨A,E,I,O⟩ ⟨B,E',I',O'⟩=⟨((A+B:Nat):Int),L3,I,Y⟩:=by
  unfold opI
  simp only [Int.toNat_natCast]
  rw [HL.out.1,HL.out.2.2.1]
 have hOW:=op_w HG.out.1 HG.out.2.1
 have hLT:=prs_lt HG.out.1 HG.out.2.1
 have hPL:=prs_len (b:=⟨B,E',I',O'⟩) HG.out.1
 have e1:=prs_fst (a:=⟨A,E,I,O⟩) (b:=⟨B,E',I',O'⟩) HG.out.1 HG.out.2.2
 have e2:=prs_snd (a:=⟨A,E,I,O⟩) (b:=⟨B,E',I',O'⟩) HG.out.1 HG.out.2.1 HG.out.2.2
 have hSQ:=HSQ.out
 unfold sqI at hSQ
 rw [hOP] at hOW hSQ
 simp only [Int.toNat_natCast] at hOW hLT hSQ e1 e2
 rw [HL.out.2.1] at e2
 have hgl:=hgGlue_any (A+B) L3 I Y (.slice x1 L3.length y1) (.slice x2 I.length y2) (.slice p3 (L2.length - O.length) (y3 - O.length)) (.slice a3 O.length q3) (.slice a4 X.length q4) (prsI ⟨A,E,I,O⟩ ⟨B,E',I',O'⟩) W7 ⟨HALL.out.1,HALL.out.2.1,HALL.out.2.2.1⟩ hOW (by rw [e1];exact HALL.out.2.2.2.1) (by rw [e2];exact HALL.out.2.2.2.2.1) hLT (by omega)
 rw [hSQ,Int.natCast_add] at hgl
 refine (hgl.mono (R':=GrMq G W7) fun _ _ h=>h.mq).mono ?_
 rintro e w9 ⟨s1,t1,s2,t2,s3,t3,rfl,hg9,hb9⟩
 have kR9:=kR7.keep hb9
 have hlow:=kR7.lt
 have HG9:=Lib.hid hg9
 have HB9:=Lib.hid (HALL.out.2.2.2.2.2.trans (hb9.mono HALL.out.2.2.2.2.2.size))
 have HW7:=Lib.hid HALL.out.2.2.2.2.2.size
 obtain ⟨iR,fR,zR⟩:=kR9.cell
 clear hg9 hb9 kR7 kR9 hgl hSQ hPL hLT hOW hOP e1 e2
 obtain ⟨gw,ge,gi,go⟩:=G
 dsimp only
 go_wp2
 refine bodyPost_ret (v:=.agg #[.int .i64 gw,.slice s1 ge.length t1,.slice s2 gi.length t2,.slice s3 go.length t3]) (by simp [results,Tryz.results236,go_sem,iR]) rfl ⟨_,_,_,rfl,?_,?_⟩
 ·exact (HG9.out.res hlow _ _ _ _).mono HW7.out
 ·exact below_res HB9.out (by omega) _ _ _ _
theorem hgIf_any (g:GrI) (ve vi vo:Value) (w:World) (hR:GrO w 0 ve vi vo g) (hok:GrOk g) :
  Calls Tryz.prog 235 #[.agg #[.int .i64 g.wires,ve,vi,vo]] w fun e w'=>(grB g=true → e=.returned (.tuple #[.agg #[.int .i64 g.wires,ve,vi,vo],.bool true]))∧(grB g=false → e=.returned (.tuple #[.agg #[.int .i64 0,.slice none 0 0,.slice none 0 0,.slice none 0 0],.bool false]))∧Below w.heap.size w w':=by
 obtain ⟨⟨ae,ce,rfl⟩,⟨ai,ci,rfl⟩,ao,co,rfl⟩:=hR.at.slices
 have hA1:=alloc_below w (.cells #[.int .i64 g.wires,.slice ae g.edges.length ce,.slice ai g.ins.length ci,.slice ao g.outs.length co] 53)
 have hA2:=alloc_below (w.alloc (.cells #[.int .i64 g.wires,.slice ae g.edges.length ce,.slice ai g.ins.length ci,.slice ao g.outs.length co] 53)) (.cells #[.int .i64 0,.slice none 0 0,.slice none 0 0,.slice none 0 0] 53)
 have hB:=hA1.trans (hA2.mono hA1.size)
 have kG:=(Bk.new w 53 #[.int .i64 g.wires,.slice ae g.edges.length ce,.slice ai g.ins.length ci,.slice ao g.outs.length co]).keep hA2
 have kR:=Bk.new (w.alloc (.cells #[.int .i64 g.wires,.slice ae g.edges.length ce,.slice ai g.ins.length ci,.slice ao g.outs.length co] 53)) 53 #[.int .i64 0,.slice none 0 0,.slice none 0 0,.slice none 0 0]
 simp only [World.size_alloc] at kR
 clear hA1 hA2
 go_enter Tryz.func235,Tryz.ntmps235
 go_wp2_with fail
 generalize ((w.alloc (.cells #[.int .i64 g.wires,.slice ae g.edges.length ce,.slice ai g.ins.length ci,.slice ao g.outs.length co] 53)).alloc (.cells #[.int .i64 0,.slice none 0 0,.slice none 0 0,.slice none 0 0] 53))=u0 at *
 refine (hgValid_any _ _ _ g u0 (hR.keep hB).at hok).mono ?_
 rintro e u1 ⟨rfl,hb⟩
 have kG1:=kG.keep hb
 have kR1:=kR.keep hb
 have HB:=Lib.hid (hB.trans (hb.mono hB.size))
 obtain ⟨iG,fG,zG⟩:=kG1.cell
 obtain ⟨iR,fR,zR⟩:=kR1.cell
 have hne:¬ w.heap.size=w.heap.size+1:=by omega
 clear hb hB kG kR kG1 kR1 hok hR
 cases hg:grB g with
 | true =>
  go_wp2
  refine bodyPost_ret (v:=.tuple #[.agg #[.int .i64 g.wires,.slice ae g.edges.length ce,.slice ai g.ins.length ci,.slice ao g.outs.length co],.bool true]) (by simp [results,Tryz.results235,go_sem,iR,fR,zR]) rfl ⟨fun _=>rfl,fun h=>absurd (hg.symm.trans h) (by decide),below_res HB.out (by omega) _ _ _ _⟩
 | false =>
  go_wp2
  refine bodyPost_ret (v:=.tuple #[.agg #[.int .i64 0,.slice none 0 0,.slice none 0 0,.slice none 0 0],.bool false]) (by simp [results,Tryz.results235,go_sem,iR,fR,zR]) rfl ⟨fun h=>absurd (hg.symm.trans h) (by decide),fun _=>rfl,below_res HB.out (by omega) _ _ _ _⟩
end Go.Proofs.YtbljmfcifljkaaaGreatDoor
/-
  The reference's hgMade: the graph of a term. Own work.
-/
namespace Go.Proofs.YtbljmfcifljkaaaGreatDoor
open Go.RowKit
set_option maxRecDepth 100000
set_option maxHeartbeats 1000000
structure RuTr (t:Tr):Prop where
 lk:t.LK
 ty:∃ x,t.ty (leafIn [])=some x
 len:t.nodes.length≤400
theorem RuTr.typed {t:Tr} (h:RuTr t):(∃ x,typedL (leafIn []) t.nodes=some x)∧NdsOk t.nodes:=by
 obtain ⟨x,hx⟩:=h.ty
 have hl:=h.len
 exact ⟨⟨x,typedL_nodes h.lk hx hl⟩,names_ty t x hx,by omega⟩
def joinM (op:GrI → GrI → GrI) (x y:Option GrI):Option GrI :=
 match x,y with
 | some x,some y=>if grB (op x y)=true then some (op x y) else none
 | _,_=>none
theorem sSeqQ (x y:GrV) (u:World) (hx:GrR u x.2.1 x.2.2.1 x.2.2.2 x.1) (hy:GrR u y.2.1 y.2.2.1 y.2.2.2 y.1) (ga:grB x.1=true) (gb:grB y.1=true) (hfit:x.1.outs.length=y.1.ins.length) :
  Calls Tryz.prog 236 #[.agg #[.int .i64 x.1.wires,x.2.1,x.2.2.1,x.2.2.2],.agg #[.int .i64 y.1.wires,y.2.1,y.2.2.1,y.2.2.2]] u (GrMq (sqI x.1 y.1) u):=by
 obtain ⟨⟨W,E,I,O⟩,ve,vi,vo⟩:=x
 obtain ⟨⟨W',E',I',O'⟩,ve',vi',vo'⟩:=y
 obtain ⟨⟨n,h0,-⟩,-⟩:=grB_parts ga
 obtain ⟨⟨m,k0,-⟩,-⟩:=grB_parts gb
 simp only at h0 k0
 subst h0
 subst k0
 exact (hgSeq_any n m E E' I I' O O' ve vi vo ve' vi' vo' u hx hy ga gb hfit).mono fun _ _ h=>h.mq
theorem sParQ (x y:GrV) (u:World) (hx:GrR u x.2.1 x.2.2.1 x.2.2.2 x.1) (hy:GrR u y.2.1 y.2.2.1 y.2.2.2 y.1) (ga:grB x.1=true) (gb:grB y.1=true) :
  Calls Tryz.prog 237 #[.agg #[.int .i64 x.1.wires,x.2.1,x.2.2.1,x.2.2.2],.agg #[.int .i64 y.1.wires,y.2.1,y.2.2.1,y.2.2.2]] u (GrMq (prI x.1 y.1) u):=by
 obtain ⟨⟨W,E,I,O⟩,ve,vi,vo⟩:=x
 obtain ⟨⟨W',E',I',O'⟩,ve',vi',vo'⟩:=y
 obtain ⟨⟨n,h0,-⟩,-⟩:=grB_parts ga
 obtain ⟨⟨m,k0,-⟩,-⟩:=grB_parts gb
 simp only at h0 k0
 subst h0
 subst k0
 exact (hgPar_any n m E E' I I' O O' ve vi vo ve' vi' vo' u hx hy (grB_w ga rfl) (grB_w gb rfl)).mono fun _ _ h=>h.mq
theorem GrO.zero (w:World) (B:Nat):GrO w B (.slice none 0 0) (.slice none 0 0) (.slice none 0 0) (gOr none):=⟨EdsO.nil _ _,World.ownsRow_nil _ _ _ _,World.ownsRow_nil _ _ _ _⟩
def GoQ (r:Option GrI) (w:World) (e:Ending) (w':World):Prop:=∃ a1 c1 a2 c2 a3 c3,e=.returned (.tuple #[.agg #[.int .i64 (gOr r).wires,.slice a1 (gOr r).edges.length c1,.slice a2 (gOr r).ins.length c2,.slice a3 (gOr r).outs.length c3],.bool r.isSome])∧GrO w' w.heap.size (.slice a1 (gOr r).edges.length c1) (.slice a2 (gOr r).ins.length c2) (.slice a3 (gOr r).outs.length c3) (gOr r)∧Below w.heap.size w w'
theorem GoP.q {r:Option GrI} {w w':World} {e:Ending} (h:GoP r w e w'):GoQ r w e w':=by
 obtain ⟨v1,v2,v3,rfl,h1,h2⟩:=h
 obtain ⟨⟨x1,y1,rfl⟩,⟨x2,y2,rfl⟩,x3,y3,rfl⟩:=h1.at.slices
 exact ⟨x1,y1,x2,y2,x3,y3,rfl,h1,h2⟩
theorem hgMade_leaf (v:Value) (n:Nd) (w:World) (hv:NdsAt w v [n]) (hl:leafB n=true) :
  Calls Tryz.prog 172 #[.agg #[v]] w (GoP (some (lfI n)) w):=by
 have hk:n.kind<15:=by
  unfold leafB at hl
  simp only [Bool.and_eq_true,decide_eq_true_eq] at hl
  omega
 have hv0:=hv
 obtain ⟨a,cap,rfl,hc,hat⟩:=hv
 obtain ⟨b,o,rfl,hlt,n0,n1,n2⟩:=hat 0 (by simp)
 simp only [List.getElem_cons_zero,Nat.zero_mul,Nat.add_zero] at n0 n1 n2
 simp only [List.length_singleton] at hc hv0 ⊢
 have hz:=cell_lt n0
 clear hat hlt
 have hT:=fun (w1:World) (h1:NdsAt w1 (.slice (some ⟨b,o,none⟩) 1 cap) [n])=>tmTop_any (.slice (some ⟨b,o,none⟩) 1 cap) [] n w1 h1 (by simp)
 have HT:=Lib.hid hT
 have HL:=Lib.hid (fun u=>(hgLeaf_any n u hl).mono (R':=GrMq (lfI n) u) fun _ _ h=>h.mq)
 clear hT
 have hA1:=alloc_below w (.cells #[.slice (some ⟨b,o,none⟩) 1 cap] 30)
 have hA2:=alloc_below (w.alloc (.cells #[.slice (some ⟨b,o,none⟩) 1 cap] 30)) (.cells #[.int .i64 0,.slice none 0 0,.slice none 0 0,.slice none 0 0] 53)
 have hB:=hA1.trans (hA2.mono hA1.size)
 have kT:=(Bk.new w 30 #[.slice (some ⟨b,o,none⟩) 1 cap]).keep hA2
 have kR:=Bk.new (w.alloc (.cells #[.slice (some ⟨b,o,none⟩) 1 cap] 30)) 53 #[.int .i64 0,.slice none 0 0,.slice none 0 0,.slice none 0 0]
 simp only [World.size_alloc] at kR
 clear hA1 hA2 hl
 obtain ⟨G,hG⟩:∃ G,lfI n=G:=⟨_,rfl⟩
 rw [hG] at HL ⊢
 clear hG
 go_enter Tryz.func172,Tryz.ntmps172
 go_wp2_with fail
 generalize ((w.alloc (.cells #[.slice (some ⟨b,o,none⟩) 1 cap] 30)).alloc (.cells #[.int .i64 0,.slice none 0 0,.slice none 0 0,.slice none 0 0] 53))=u0 at *
 refine (HT.out u0 (hv0.keep hB)).mono ?_
 rintro e u1 ⟨rfl,hb1⟩
 have hB1:=hB.trans (hb1.mono hB.size)
 replace kT:=kT.keep hb1
 replace kR:=kR.keep hb1
 replace n0:=cell_keep hB1 n0
 replace n1:=cell_keep hB1 n1
 replace n2:=cell_keep hB1 n2
 obtain ⟨iT,-,zT⟩:=kT.cell
 have zb:=cell_lt n0
 clear hb1 hB hv0
 go_wp2_with fail
 refine (HL.out u1).mono ?_
 rintro e u2 ⟨x1,y1,x2,y2,x3,y3,rfl,hg,hb2⟩
 have hlow:=kR.lt
 have kR2:=kR.keep hb2
 obtain ⟨iR,fR,zR⟩:=kR2.cell
 have HG:=Lib.hid hg
 have HB:=Lib.hid (hB1.trans (hb2.mono hB1.size))
 have HS:=Lib.hid hB1.size
 clear hg hb2 kR kR2 kT iT zT n0 n1 n2 hB1
 go_wp2
 refine bodyPost_ret (v:=.tuple #[.agg #[.int .i64 G.wires,.slice x1 G.edges.length y1,.slice x2 G.ins.length y2,.slice x3 G.outs.length y3],.bool true]) (by simp [results,Tryz.results172,go_sem,iR,fR,zR]) rfl ⟨_,_,_,rfl,?_,?_⟩
 ·exact (HG.out.res hlow _ _ _ _).mono HS.out
 ·exact below_res HB.out (by omega) _ _ _ _
theorem hgMade_join (K:Int) (hK:K=15∨K=16) (v:Value) (a b:Tr) (x:W2) (w:World) (hv:NdsAt w v (a.nodes ++ b.nodes ++ [⟨K,0,⟨#[]⟩⟩])) (hty:typedL (leafIn []) (a.nodes ++ b.nodes ++ [⟨K,0,⟨#[]⟩⟩])=some x)
  (hok:NdsOk (a.nodes ++ b.nodes ++ [⟨K,0,⟨#[]⟩⟩])) (la:a.LK) (lb:b.LK) (ra rb:Option GrI)
  (ia:∀ (v:Value) (w:World),NdsAt w v a.nodes → Calls Tryz.prog 172 #[.agg #[v]] w (GoP ra w)) (ib:∀ (v:Value) (w:World),NdsAt w v b.nodes → Calls Tryz.prog 172 #[.agg #[v]] w (GoP rb w))
  (op:GrI → GrI → GrI) (hop:∀ ga gb,ra=some ga → rb=some gb → GrOk (op ga gb)∧∀ (v1 v2 v3 u1 u2 u3:Value) (u:World),GrR u v1 v2 v3 ga → GrR u u1 u2 u3 gb →
   (K=15 → Calls Tryz.prog 236 #[.agg #[.int .i64 ga.wires,v1,v2,v3],.agg #[.int .i64 gb.wires,u1,u2,u3]] u (GrMq (op ga gb) u))∧(K=16 → Calls Tryz.prog 237 #[.agg #[.int .i64 ga.wires,v1,v2,v3],.agg #[.int .i64 gb.wires,u1,u2,u3]] u (GrMq (op ga gb) u))) :
  Calls Tryz.prog 172 #[.agg #[v]] w (GoP (joinM op ra rb) w):=by
 have hl:=typedL_len hty
 have hpp:=fun (w1:World) (h1:NdsAt w1 v (a.nodes ++ b.nodes ++ [⟨K,0,⟨#[]⟩⟩]))=>tmParts_any v a b ⟨K,0,⟨#[]⟩⟩ x w1 h1 hok la lb hty
 have hT:∀ (w1:World),NdsAt w1 v ((a.nodes ++ b.nodes) ++ [⟨K,0,⟨#[]⟩⟩]) → Calls Tryz.prog 158 #[.agg #[v]] w1 fun e w'=>e=.returned (.int .i64 K)∧Below w1.heap.size w1 w':=fun w1 h1=>tmTop_any v (a.nodes ++ b.nodes) ⟨K,0,⟨#[]⟩⟩ w1 h1 (by simp only [List.length_append] at hl ⊢;omega)
 obtain ⟨NA,hNA⟩:∃ A,A=a.nodes:=⟨_,rfl⟩
 obtain ⟨NB,hNB⟩:∃ B,B=b.nodes:=⟨_,rfl⟩
 rw [← hNA,← hNB] at hv hpp hT hl
 rw [← hNA] at ia
 rw [← hNB] at ib
 have HIA:=Lib.hid (fun v w h=>(ia v w h).mono (R':=GoQ ra w) fun _ _ h=>h.q)
 have HIB:=Lib.hid (fun v w h=>(ib v w h).mono (R':=GoQ rb w) fun _ _ h=>h.q)
 have HP:=Lib.hid hpp
 have HT:=Lib.hid hT
 have HOP:=Lib.hid hop
 have hnl:¬ K<15:=by omega
 obtain ⟨J,hJ⟩:∃ J,joinM op ra rb=J:=⟨_,rfl⟩
 have HJ:=Lib.hid hJ
 rw [hJ]
 obtain ⟨N,hN⟩:∃ N,N=(NA ++ NB ++ [(⟨K,0,⟨#[]⟩⟩:Nd)]).length:=⟨_,rfl⟩
 obtain ⟨av,cv,rfl⟩:=hv.slice
 rw [← hN] at *
 have HV:=Lib.hid hv
 have HKK:=Lib.hid hK
 clear hpp hT hop hJ ia ib hty hok la lb hNA hNB hl hv hN hK
 have hA1:=alloc_below w (.cells #[.slice av N cv] 30)
 have hA2:=alloc_below (w.alloc (.cells #[.slice av N cv] 30)) (.cells #[.int .i64 0,.slice none 0 0,.slice none 0 0,.slice none 0 0] 53)
 have hB:=hA1.trans (hA2.mono hA1.size)
 have kT:=(Bk.new w 30 #[.slice av N cv]).keep hA2
 have kR:=Bk.new (w.alloc (.cells #[.slice av N cv] 30)) 53 #[.int .i64 0,.slice none 0 0,.slice none 0 0,.slice none 0 0]
 simp only [World.size_alloc] at kR
 clear hA1 hA2
 go_enter Tryz.func172,Tryz.ntmps172
 go_wp2_with fail
 generalize ((w.alloc (.cells #[.slice av N cv] 30)).alloc (.cells #[.int .i64 0,.slice none 0 0,.slice none 0 0,.slice none 0 0] 53))=u0 at *
 have HLOW:=Lib.hid kR.lt
 refine (HT.out u0 (HV.out.keep hB)).mono ?_
 rintro e u1 ⟨rfl,hb1⟩
 have hB1:=hB.trans (hb1.mono hB.size)
 replace kT:=kT.keep hb1
 replace kR:=kR.keep hb1
 obtain ⟨iT,-,zT⟩:=kT.cell
 clear hB
 go_wp2_with fail
 refine (HP.out u1 (HV.out.keep hB1)).mono ?_
 rintro e u2 ⟨va,vb,rfl,hna,hnb,hb2⟩
 have hB2:=hB1.trans (hb2.mono hB1.size)
 replace kR:=kR.keep hb2
 clear kT iT zT
 obtain ⟨aa,ca,rfl⟩:=hna.slice
 obtain ⟨ab,cb,rfl⟩:=hnb.slice
 have hA3:=alloc_below u2 (.cells #[.slice aa NA.length ca] 30)
 have hA4:=alloc_below (u2.alloc (.cells #[.slice aa NA.length ca] 30)) (.cells #[.slice ab NB.length cb] 30)
 have hA34:=hA3.trans (hA4.mono hA3.size)
 have k5:=(Bk.new u2 30 #[.slice aa NA.length ca]).keep hA4
 have k6:=Bk.new (u2.alloc (.cells #[.slice aa NA.length ca] 30)) 30 #[.slice ab NB.length cb]
 rw [World.size_alloc] at k6
 go_wp2_with fail
 have hB3:=hB2.trans (hA34.mono hB2.size)
 replace kR:=kR.keep hA34
 have hna2:=hna.at.keep hA34
 have hnb2:=hnb.at.keep hA34
 clear hA3 hA4 hA34 hna hnb hb2 hb1 hB1 hB2
 generalize ((u2.alloc (.cells #[.slice aa NA.length ca] 30)).alloc (.cells #[.slice ab NB.length cb] 30))=u3 at *
 generalize u2.heap.size=b5 at *
 refine (HIA.out _ u3 hna2).mono ?_
 rintro e u4 ⟨x1,y1,x2,y2,x3,y3,rfl,hga,hb4⟩
 have hB4:=hB3.trans (hb4.mono hB3.size)
 replace kR:=kR.keep hb4
 have k64:=k6.keep hb4
 replace hnb2:=hnb2.keep hb4
 obtain ⟨i6,-,z6⟩:=k64.cell
 clear k5 k6 hna2 hb4
 have hS3:=Lib.hid hB3.size
 clear hB3
 go_wp2_with fail
 have hA5:=alloc_below u4 (.cells #[.int .i64 (gOr ra).wires,.slice x1 (gOr ra).edges.length y1,.slice x2 (gOr ra).ins.length y2,.slice x3 (gOr ra).outs.length y3] 53)
 have k7:=Bk.new u4 53 #[.int .i64 (gOr ra).wires,.slice x1 (gOr ra).edges.length y1,.slice x2 (gOr ra).ins.length y2,.slice x3 (gOr ra).outs.length y3]
 have hB5:=hB4.trans (hA5.mono hB4.size)
 replace kR:=kR.keep hA5
 replace hga:=hga.keep hA5
 replace hnb2:=hnb2.keep hA5
 clear hA5 k64 i6 z6 hB4
 generalize (u4.alloc (.cells #[.int .i64 (gOr ra).wires,.slice x1 (gOr ra).edges.length y1,.slice x2 (gOr ra).ins.length y2,.slice x3 (gOr ra).outs.length y3] 53))=u5 at *
 generalize u4.heap.size=b7 at *
 refine (HIB.out _ u5 hnb2).mono ?_
 rintro e u6 ⟨s1,t1,s2,t2,s3,t3,rfl,hgb,hb6⟩
 have hB6:=hB5.trans (hb6.mono hB5.size)
 replace kR:=kR.keep hb6
 replace k7:=k7.keep hb6
 replace hga:=hga.keep hb6
 clear hnb2 hb6
 have hS5:=Lib.hid hB5.size
 clear hB5
 cases ra with
 | none =>
  have HJN:=Lib.hid (show J=none by rw [← HJ.out];rfl)
  obtain ⟨iR,fR,zR⟩:=kR.cell
  have HB6:=Lib.hid hB6
  clear hga hgb k7 hB6 kR
  go_wp2
  refine bodyPost_ret (v:=.tuple #[.agg #[.int .i64 0,.slice none 0 0,.slice none 0 0,.slice none 0 0],.bool false]) (by simp [results,Tryz.results172,go_sem,iR,fR,zR]) rfl ?_
  rw [HJN.out]
  refine ⟨_,_,_,rfl,GrO.zero _ _,?_⟩
  (repeat (first|(with_reducible refine Below.alloc ?_ ?_ _;rotate_left;(first|omega|(simp;done)|(simp;omega)))|(with_reducible refine Below.setCell ?_ ?_ _;rotate_left;(first|exact Nat.le_refl _|(simp;done)|(simp;omega)))|(with_reducible refine Below.drew ?_)));exact below_res HB6.out (by omega) _ _ _ _
 | some ga =>
  cases rb with
  | none =>
   have HJN:=Lib.hid (show J=none by rw [← HJ.out];rfl)
   obtain ⟨iR,fR,zR⟩:=kR.cell
   have HB6:=Lib.hid hB6
   clear hga hgb k7 hB6 kR
   go_wp2
   refine bodyPost_ret (v:=.tuple #[.agg #[.int .i64 0,.slice none 0 0,.slice none 0 0,.slice none 0 0],.bool false]) (by simp [results,Tryz.results172,go_sem,iR,fR,zR]) rfl ?_
   rw [HJN.out]
   refine ⟨_,_,_,rfl,GrO.zero _ _,?_⟩
   (repeat (first|(with_reducible refine Below.alloc ?_ ?_ _;rotate_left;(first|omega|(simp;done)|(simp;omega)))|(with_reducible refine Below.setCell ?_ ?_ _;rotate_left;(first|exact Nat.le_refl _|(simp;done)|(simp;omega)))|(with_reducible refine Below.drew ?_)));exact below_res HB6.out (by omega) _ _ _ _
  | some gb =>
   obtain ⟨hgo,hcall⟩:=HOP.out ga gb rfl rfl
   simp only [gOr,Option.getD_some] at hga hgb k7 ⊢
   have hA7:=alloc_below u6 (.cells #[.int .i64 gb.wires,.slice s1 gb.edges.length t1,.slice s2 gb.ins.length t2,.slice s3 gb.outs.length t3] 53)
   have k9:=Bk.new u6 53 #[.int .i64 gb.wires,.slice s1 gb.edges.length t1,.slice s2 gb.ins.length t2,.slice s3 gb.outs.length t3]
   have HCL:=Lib.hid (fun u (hu:Below u6.heap.size u6 u)=>hcall _ _ _ _ _ _ u (hga.keep hu).at (hgb.keep hu).at)
   have HGO:=Lib.hid hgo
   have HB6:=Lib.hid hB6
   obtain ⟨i7,f7,z7⟩:=k7.cell
   have HJS:=Lib.hid (show J=if grB (op ga gb)=true then some (op ga gb) else none by rw [← HJ.out];rfl)
   clear hcall hgo hga hgb k7 hB6
   have HS6:=Lib.hid (show w.heap.size+1<u6.heap.size from kR.lt)
   rcases HKK.out with rfl|rfl
   ·go_wp2_with fail
    have hB7:=HB6.out.trans (hA7.mono HB6.out.size)
    replace kR:=kR.keep hA7
    have hcl:=(HCL.out _ hA7).1 trivial
    clear HCL i7 f7 z7
    generalize (u6.alloc (.cells #[.int .i64 gb.wires,.slice s1 gb.edges.length t1,.slice s2 gb.ins.length t2,.slice s3 gb.outs.length t3] 53))=u7 at *
    refine hcl.mono ?_
    rintro e u8 ⟨p1,q1,p2,q2,p3,q3,rfl,hg8,hb8⟩
    have hB8:=hB7.trans (hb8.mono hB7.size)
    replace kR:=kR.keep hb8
    go_wp2_with fail
    refine (hgIf_any _ _ _ _ u8 (hg8.mono (Nat.zero_le _)) HGO.out).mono ?_
    rintro e u9 ⟨e1,e2,hb9⟩
    have hB9:=hB8.trans (hb9.mono hB8.size)
    replace kR:=kR.keep hb9
    obtain ⟨iR,fR,zR⟩:=kR.cell
    have HB9:=Lib.hid hB9
    have HG:=Lib.hid ((hg8.keep hb9).mono hB7.size)
    have hlw:w.heap.size+1<u7.heap.size:=by have:=HLOW.out;have:=hA7.size;have:=HS6.out;omega
    have HG2:=Lib.hid (hg8.keep hb9)
    generalize op ga gb=G at *
    clear hB7 hb8 hB8 hb9 hB9 hcl hA7 kR k9
    cases hgb:grB G with
    | true =>
     obtain rfl:=e1 hgb
     have HJ2:=Lib.hid (show J=some G by rw [HJS.out,if_pos hgb])
     clear e1 e2 hgb
     go_wp2
     refine bodyPost_ret (v:=.tuple #[.agg #[.int .i64 G.wires,.slice p1 G.edges.length q1,.slice p2 G.ins.length q2,.slice p3 G.outs.length q3],.bool true]) (by simp [results,Tryz.results172,go_sem,iR,fR,zR]) rfl ?_
     rw [HJ2.out]
     exact ⟨_,_,_,rfl,(HG2.out.res hlw _ _ _ _).mono (by omega),below_res HB9.out (by omega) _ _ _ _⟩
    | false =>
     obtain rfl:=e2 hgb
     have HJ2:=Lib.hid (show J=none by rw [HJS.out,hgb];rfl)
     clear e1 e2 hgb
     go_wp2
     refine bodyPost_ret (v:=.tuple #[.agg #[.int .i64 0,.slice none 0 0,.slice none 0 0,.slice none 0 0],.bool false]) (by simp [results,Tryz.results172,go_sem,iR,fR,zR]) rfl ?_
     rw [HJ2.out]
     exact ⟨_,_,_,rfl,GrO.zero _ _,below_res HB9.out (by omega) _ _ _ _⟩
   ·go_wp2_with fail
    have hB7:=HB6.out.trans (hA7.mono HB6.out.size)
    replace kR:=kR.keep hA7
    have hcl:=(HCL.out _ hA7).2 trivial
    clear HCL i7 f7 z7
    generalize (u6.alloc (.cells #[.int .i64 gb.wires,.slice s1 gb.edges.length t1,.slice s2 gb.ins.length t2,.slice s3 gb.outs.length t3] 53))=u7 at *
    refine hcl.mono ?_
    rintro e u8 ⟨p1,q1,p2,q2,p3,q3,rfl,hg8,hb8⟩
    have hB8:=hB7.trans (hb8.mono hB7.size)
    replace kR:=kR.keep hb8
    go_wp2_with fail
    refine (hgIf_any _ _ _ _ u8 (hg8.mono (Nat.zero_le _)) HGO.out).mono ?_
    rintro e u9 ⟨e1,e2,hb9⟩
    have hB9:=hB8.trans (hb9.mono hB8.size)
    replace kR:=kR.keep hb9
    obtain ⟨iR,fR,zR⟩:=kR.cell
    have HB9:=Lib.hid hB9
    have HG:=Lib.hid ((hg8.keep hb9).mono hB7.size)
    have hlw:w.heap.size+1<u7.heap.size:=by have:=HLOW.out;have:=hA7.size;have:=HS6.out;omega
    have HG2:=Lib.hid (hg8.keep hb9)
    generalize op ga gb=G at *
    clear hB7 hb8 hB8 hb9 hB9 hcl hA7 kR k9
    cases hgb:grB G with
    | true =>
     obtain rfl:=e1 hgb
     have HJ2:=Lib.hid (show J=some G by rw [HJS.out,if_pos hgb])
     clear e1 e2 hgb
     go_wp2
     refine bodyPost_ret (v:=.tuple #[.agg #[.int .i64 G.wires,.slice p1 G.edges.length q1,.slice p2 G.ins.length q2,.slice p3 G.outs.length q3],.bool true]) (by simp [results,Tryz.results172,go_sem,iR,fR,zR]) rfl ?_
     rw [HJ2.out]
     exact ⟨_,_,_,rfl,(HG2.out.res hlw _ _ _ _).mono (by omega),below_res HB9.out (by omega) _ _ _ _⟩
    | false =>
     obtain rfl:=e2 hgb
     have HJ2:=Lib.hid (show J=none by rw [HJS.out,hgb];rfl)
     clear e1 e2 hgb
     go_wp2
     refine bodyPost_ret (v:=.tuple #[.agg #[.int .i64 0,.slice none 0 0,.slice none 0 0,.slice none 0 0],.bool false]) (by simp [results,Tryz.results172,go_sem,iR,fR,zR]) rfl ?_
     rw [HJ2.out]
     exact ⟨_,_,_,rfl,GrO.zero _ _,below_res HB9.out (by omega) _ _ _ _⟩
theorem RuTr.seqs {a b:Tr} (h:RuTr (.seq a b)):RuTr a∧RuTr b∧∃ p q x,a.ty (leafIn [])=some p∧b.ty (leafIn [])=some q∧joinW 15 p q=some x:=by
 obtain ⟨x,hx⟩:=h.ty
 have hl:=h.len
 simp only [Tr.nodes,List.length_append,List.length_singleton] at hl
 simp only [Tr.ty] at hx
 split at hx
 ·rename_i p q h1 h2
  exact ⟨⟨h.lk.1,⟨_,h1⟩,by omega⟩,⟨h.lk.2,⟨_,h2⟩,by omega⟩,p,q,x,h1,h2,hx⟩
 ·cases hx
theorem RuTr.pars {a b:Tr} (h:RuTr (.par a b)):RuTr a∧RuTr b∧∃ p q,a.ty (leafIn [])=some p∧b.ty (leafIn [])=some q:=by
 obtain ⟨x,hx⟩:=h.ty
 have hl:=h.len
 simp only [Tr.nodes,List.length_append,List.length_singleton] at hl
 simp only [Tr.ty] at hx
 split at hx
 ·rename_i p q h1 h2
  exact ⟨⟨h.lk.1,⟨_,h1⟩,by omega⟩,⟨h.lk.2,⟨_,h2⟩,by omega⟩,p,q,h1,h2⟩
 ·cases hx
theorem madeT_seq (a b:Tr):madeT (.seq a b)=joinM sqI (madeT a) (madeT b):=by
 unfold joinM
 rw [madeT]
 cases madeT a <;> cases madeT b <;> rfl
theorem madeT_par (a b:Tr):madeT (.par a b)=joinM prI (madeT a) (madeT b):=by
 unfold joinM
 rw [madeT]
 cases madeT a <;> cases madeT b <;> rfl
theorem hgMadeT:∀ (t:Tr),RuTr t → ∀ (v:Value) (w:World),NdsAt w v t.nodes → Calls Tryz.prog 172 #[.agg #[v]] w (GoP (madeT t) w)
 | .leaf n,h,v,w,hv=>by
  obtain ⟨x,hx⟩:=h.ty
  exact hgMade_leaf v n w hv (leafIn_nil hx).1
 | .seq a b,h,v,w,hv=>by
  obtain ⟨⟨x,hx⟩,hok⟩:=h.typed
  obtain ⟨ha,hb,p,q,y,h1,h2,hj⟩:=h.seqs
  rw [madeT_seq]
  refine hgMade_join 15 (.inl rfl) v a b x w hv hx hok ha.lk hb.lk _ _ (fun v w hv=>hgMadeT a ha v w hv) (fun v w hv=>hgMadeT b hb v w hv) sqI fun ga gb ea eb=>?_
  have ma:=madeT_ok a p h1 ga ea
  have mb:=madeT_ok b q h2 gb eb
  have hf:ga.outs.length=gb.ins.length:=by have h3:=ma.b;have h4:=mb.a;have h5:=(join15 hj).1;omega
  exact ⟨grOk_sq ma.ok mb.ok,fun v1 v2 v3 u1 u2 u3 u r1 r2=>⟨fun _=>sSeqQ (ga,v1,v2,v3) (gb,u1,u2,u3) u r1 r2 ma.ok mb.ok hf,fun hh=>absurd hh (by decide)⟩⟩
 | .par a b,h,v,w,hv=>by
  obtain ⟨⟨x,hx⟩,hok⟩:=h.typed
  obtain ⟨ha,hb,p,q,h1,h2⟩:=h.pars
  rw [madeT_par]
  refine hgMade_join 16 (.inr rfl) v a b x w hv hx hok ha.lk hb.lk _ _ (fun v w hv=>hgMadeT a ha v w hv) (fun v w hv=>hgMadeT b hb v w hv) prI fun ga gb ea eb=>?_
  have ma:=madeT_ok a p h1 ga ea
  have mb:=madeT_ok b q h2 gb eb
  exact ⟨grOk_pr ma.ok mb.ok,fun v1 v2 v3 u1 u2 u3 u r1 r2=>⟨fun hh=>absurd hh (by decide),fun _=>sParQ (ga,v1,v2,v3) (gb,u1,u2,u3) u r1 r2 ma.ok mb.ok⟩⟩
theorem hgMadeN (ns:List Nd) (x:W2) (v:Value) (w:World) (hty:typedL (leafIn []) ns=some x) (hv:NdsAt w v ns):Calls Tryz.prog 172 #[.agg #[v]] w (GoP (mkG ns) w):=by
 obtain ⟨t,h1,h2,rfl⟩:=tree_of hty
 have:=hgMadeT t ⟨h1,⟨x,h2⟩,typedL_len hty⟩ v w hv
 have e:mkG t.nodes=madeT t:=by
  have hg:=grGo_tree t x h1 h2 [] []
  rw [List.append_nil] at hg
  unfold mkG
  rw [hg]
  cases madeT t <;> rfl
 rw [e]
 exact this
end Go.Proofs.YtbljmfcifljkaaaGreatDoor
/-
  The reference's tmType at a term with a type; the program's and the reference's tests of rules. Own work.
-/
namespace Go.Proofs.YtbljmfcifljkaaaGreatDoor
open Go.RowKit
set_option maxRecDepth 100000
set_option maxHeartbeats 1000000
def ScT (n:Nat) (t:W2) (w:World) (e:Ending) (w':World):Prop:=∃ (a0:Option Addr) (n0 c0 g1 c1 g2 c2:Nat),e=.returned (.tuple #[.agg #[.slice a0 n0 c0,.slice (some ⟨g1,0,none⟩) n c1,.slice (some ⟨g2,0,none⟩) n c2],.bool true]) ∧
 w'.cell? ⟨g1,n - 1,none⟩=some (.int .i64 t.1)∧w'.cell? ⟨g2,n - 1,none⟩=some (.int .i64 t.2)∧w.heap.size≤g1∧w.heap.size≤g2∧Below w.heap.size w w'
theorem lbScanT_any (v:Value) (ns:List Nd) (t:W2) (w:World) (hv:NdsAt w v ns) (hok:NdsOk ns) (ht:typedL (leafIn []) ns=some t) :
  Calls Tryz.prog 278 #[.slice none 0 0,.agg #[v]] w (ScT ns.length t w):=by
 refine (lbScan_any (.slice none 0 0) [] v ns w (dfs_nil' w) (by simp) (by simp) hv hok).mono ?_
 rintro e w' ⟨a0,n0,c0,a1,n1,c1,a2,n2,c2,rfl,hbb,hX⟩
 obtain ⟨X,hXl,hXt,r0,r1,r2⟩:=hX t ht
 have hl1:1≤ns.length:=by unfold typedL at ht;split at ht;omega;cases ht
 obtain ⟨g1,p1,he1,_,_,hg1,_⟩:=owns_some r1 (by simp;omega)
 obtain ⟨g2,p2,he2,_,_,hg2,_⟩:=owns_some r2 (by simp;omega)
 simp only [Value.slice.injEq,List.length_map] at he1 he2
 obtain ⟨rfl,rfl,rfl⟩:=he1
 obtain ⟨rfl,rfl,rfl⟩:=he2
 obtain ⟨q1,e1⟩:=getE hXt (fun p:Nat × W2=>p.2.1)
 obtain ⟨q2,e2⟩:=getE hXt (fun p:Nat × W2=>p.2.2)
 have f1:=r1.cell _ q1
 have f2:=r2.cell _ q2
 rw [e1] at f1
 rw [e2] at f2
 rw [ht,hXl]
 exact ⟨a0,n0,c0,g1,_,g2,_,rfl,f1,f2,hg1,hg2,hbb⟩
theorem tmScanT_any (v:Value) (ns:List Nd) (t:W2) (w:World) (hv:NdsAt w v ns) (hok:NdsOk ns) (ht:typedL (leafIn []) ns=some t) :
  Calls Tryz.prog 222 #[.agg #[v]] w (ScT ns.length t w):=by
 have hsc:=fun (w1:World) (h1:NdsAt w1 v ns)=>lbScanT_any v ns t w1 h1 hok ht
 have HSC:=Lib.hid hsc
 clear hsc ht hok
 obtain ⟨av,cap,rfl⟩:=hv.slice
 have hB:Below w.heap.size w ((w.alloc (.cells #[.slice av ns.length cap] 30)).alloc (.cells #[.slice none 0 0,.slice none 0 0,.slice none 0 0] 283)):=((Below.refl _ _).alloc (Nat.le_refl _) _).alloc (by simp) _
 go_enter Tryz.func222,Tryz.ntmps222
 go_wp2_with (go_at_call 278;refine (HSC.out _ (hv.keep hB)).mono ?_;rintro e w2 ⟨a0,n0,c0,g1,c1,g2,c2,rfl,hc2,hd2,hg2,hh2,hb2⟩;have hs2:=hb2.size;simp only [World.size_alloc] at hs2 hg2 hh2;have q0:=hb2.cell (p:=⟨w.heap.size+1,0,none⟩) (by simp);have q1:=hb2.cell (p:=⟨w.heap.size+1,1,none⟩) (by simp);have q3:=hb2.cell (p:=⟨w.heap.size+1,2,none⟩) (by simp);have q4:∀ k,w2.frozen? ⟨w.heap.size+1,k,none⟩=_:=fun k=>hb2.frozen (p:=⟨w.heap.size+1,k,none⟩) (by simp);simp [go_sem] at q0 q1 q3 q4;have hz2:w.heap.size+1<w2.heap.size:=(by omega))
 refine bodyPost_ret (v:=.tuple #[.agg #[.slice a0 n0 c0,.slice (some ⟨g1,0,none⟩) ns.length c1,.slice (some ⟨g2,0,none⟩) ns.length c2],.bool true]) (by simp [results,Tryz.results222,go_sem,q0,q1,q3,hz2]) rfl ⟨a0,n0,c0,g1,c1,g2,c2,rfl,?_,?_,by omega,by omega,?_⟩
 ·have:¬ g1=w.heap.size+1:=by omega
  go_simp
 ·have:¬ g2=w.heap.size+1:=by omega
  go_simp
 ·exact ((((hB.trans (hb2.mono (by simp;omega))).setCell (by simp) _).setCell (by simp) _).setCell (by simp) _)
theorem tmType_any (v:Value) (ns:List Nd) (t:W2) (w:World) (hv:NdsAt w v ns) (hok:NdsOk ns) (ht:typedL (leafIn []) ns=some t) :
  Calls Tryz.prog 170 #[.agg #[v]] w fun e w'=>e=.returned (.tuple #[.int .i64 t.1,.int .i64 t.2,.bool true])∧Below w.heap.size w w':=by
 have hsc:=fun (w1:World) (h1:NdsAt w1 v ns)=>tmScanT_any v ns t w1 h1 hok ht
 have hlen:=typedL_len ht
 have hl1:1≤ns.length:=by unfold typedL at ht;split at ht;omega;cases ht
 have HSC:=Lib.hid hsc
 clear hsc ht hok
 obtain ⟨av,cap,rfl⟩:=hv.slice
 have hA:=alloc_below w (.cells #[.slice av ns.length cap] 30)
 have kT:=Bk.new w 30 #[.slice av ns.length cap]
 go_enter Tryz.func170,Tryz.ntmps170
 go_wp2_with fail
 generalize (w.alloc (.cells #[.slice av ns.length cap] 30))=u0 at *
 refine (HSC.out u0 (hv.keep hA)).mono ?_
 rintro e u1 ⟨a0,n0,c0,g1,c1,g2,c2,rfl,f1,f2,hg1,hg2,hb⟩
 replace kT:=kT.keep hb
 obtain ⟨iT,-,zT⟩:=kT.cell
 have hB:=hA.trans (hb.mono hA.size)
 have z1:=cell_lt f1
 have z2:=cell_lt f2
 have i0:IntKind.i64.wrap ((ns.length:Int) - 1)=((ns.length - 1:Nat):Int):=by rw [IntWalk.i64_in _ (by omega)];omega
 have i1:((ns.length - 1:Nat):Int)<(ns.length:Int):=by omega
 obtain ⟨m,hm⟩:∃ m,ns.length - 1=m:=⟨_,rfl⟩
 rw [hm] at f1 f2 i0 i1
 clear hm hA hb kT hv HSC
 go_wp2_with fail
 go_quiet (fail)
 go_wp2
 go_ret3
 exact ⟨rfl,below_drewN (hB.trans ((alloc_below _ _).mono hB.size)) _⟩
theorem wiresK_any (v:Value) (ns:List Nd) (t:W2) (w:World) (hv:NdsAt w v ns) (ht:typedL (leafIn []) ns=some t) (hs:∀ d ∈ ns,d.name.size≤1048576) :
  Calls Tryz.prog 115 #[.agg #[v]] w fun e w'=>e=.returned (.tuple #[.agg #[.int .i64 t.1,.int .i64 t.2],.bool true])∧Below w.heap.size w w':=by
 have hl:=typedL_len ht
 refine (wiresT_any v ns w hv (by omega) hs).mono ?_
 rintro e w' ⟨x,rfl,hx,hb⟩
 have h2:typedL (leafT []) ns=some t:=by rw [typedL_uniq uniq_nil];exact ht
 obtain rfl:=hx t h2
 rw [h2]
 exact ⟨rfl,hb⟩
theorem madeB_mk {ns:List Nd} {x:W2} (h:typedL (leafIn []) ns=some x):madeB ns=(mkG ns).isSome:=by
 obtain ⟨t,h1,h2,rfl⟩:=tree_of h
 rw [madeB_tree h1 h2]
 have hg:=grGo_tree t x h1 h2 [] []
 rw [List.append_nil] at hg
 unfold mkG
 rw [hg]
 cases madeT t <;> rfl
structure RlK (r:RlI) (x y:W2):Prop where
 tl:typedL (leafIn []) r.left=some x
 tr:typedL (leafIn []) r.right=some y
 ln:∀ d ∈ r.left,d.name.size≤1048576
 rn:∀ d ∈ r.right,d.name.size≤1048576
 nm:r.name.size≤1048576
theorem ruleB_no {r:RlI} {x y:W2} (h:RlK r x y) (hh:¬ (x=y∧nameB r.name=true)):ruleB r=false:=by
 unfold ruleB
 rw [h.tl,h.tr]
 by_cases hn:nameB r.name=true
 ·have:¬ some x=some y:=fun e=>hh ⟨Option.some.inj e,hn⟩
  rw [decide_eq_false this];simp
 ·simp only [Bool.not_eq_true] at hn
  rw [hn];rfl
theorem ruleB_yes {r:RlI} {x y:W2} (h:RlK r x y) (hx:x=y) (hn:nameB r.name=true):ruleB r=((mkG r.left).isSome && (mkG r.right).isSome):=by
 unfold ruleB
 rw [h.tl,h.tr,hx,hn,madeB_mk h.tl,madeB_mk h.tr]
 simp
theorem isRule_any (r:RlI) (x y:W2) (vl vr:Value) (w:World) (hk:RlK r x y) (hl:NdsAt w vl r.left) (hr:NdsAt w vr r.right) :
  Calls Tryz.prog 51 #[.agg #[.string r.name,vl,vr]] w (FlP (ruleB r) w):=by
 obtain ⟨al,cl,rfl⟩:=hl.slice
 obtain ⟨ar,cr,rfl⟩:=hr.slice
 have hA:=alloc_below w (.cells #[.string r.name,.slice al r.left.length cl,.slice ar r.right.length cr] 32)
 have kI:=Bk.new w 32 #[.string r.name,.slice al r.left.length cl,.slice ar r.right.length cr]
 have HWL:=Lib.hid (fun u (h:NdsAt u (.slice al r.left.length cl) r.left)=>wiresK_any _ r.left x u h hk.tl hk.ln)
 have HWR:=Lib.hid (fun u (h:NdsAt u (.slice ar r.right.length cr) r.right)=>wiresK_any _ r.right y u h hk.tr hk.rn)
 have HN:=Lib.hid (fun u=>isName_any r.name u hk.nm)
 have HGL:=Lib.hid (fun u (h:NdsAt u (.slice al r.left.length cl) r.left)=>(graphOf_any _ r.left x u h hk.tl).mono (R':=GoQ _ u) fun _ _ h=>h.q)
 have HGR:=Lib.hid (fun u (h:NdsAt u (.slice ar r.right.length cr) r.right)=>(graphOf_any _ r.right y u h hk.tr).mono (R':=GoQ _ u) fun _ _ h=>h.q)
 have HNO:=Lib.hid (ruleB_no hk)
 have HYE:=Lib.hid (ruleB_yes hk)
 have HL:=Lib.hid hl
 have HR:=Lib.hid hr
 obtain ⟨B,hB⟩:∃ B,ruleB r=B:=⟨_,rfl⟩
 rw [hB] at HNO HYE ⊢
 clear hB hk hl hr
 go_enter Tryz.func51,Tryz.ntmps51
 go_wp2_with fail
 generalize (w.alloc (.cells #[.string r.name,.slice al r.left.length cl,.slice ar r.right.length cr] 32))=u0 at *
 refine (HWL.out u0 (HL.out.keep hA)).mono ?_
 rintro e u1 ⟨rfl,hb1⟩
 have hB1:=hA.trans (hb1.mono hA.size)
 replace kI:=kI.keep hb1
 obtain ⟨iI,-,zI⟩:=kI.cell
 clear hA hb1
 go_wp2_with fail
 have k3:=Bk.new u1 169 #[.int .i64 x.1,.int .i64 x.2]
 have hA3:=alloc_below u1 (.cells #[.int .i64 x.1,.int .i64 x.2] 169)
 have hB2:=hB1.trans (hA3.mono hB1.size)
 replace kI:=kI.keep hA3
 clear iI zI hA3 hB1
 generalize (u1.alloc (.cells #[.int .i64 x.1,.int .i64 x.2] 169))=u2 at *
 generalize u1.heap.size=b3 at *
 refine (HWR.out u2 (HR.out.keep hB2)).mono ?_
 rintro e u3 ⟨rfl,hb3⟩
 have hB3:=hB2.trans (hb3.mono hB2.size)
 replace kI:=kI.keep hb3
 replace k3:=k3.keep hb3
 obtain ⟨iI,-,zI⟩:=kI.cell
 obtain ⟨i3,-,z3⟩:=k3.cell
 clear hb3 hB2
 obtain ⟨p,q⟩:=x
 obtain ⟨p',q'⟩:=y
 dsimp only at *
 by_cases hxy:p=p'∧q=q'
 ·obtain ⟨rfl,rfl⟩:=hxy
  have hA4:=alloc_below u3 (.cells #[.int .i64 p,.int .i64 q] 169)
  have hB4:=hB3.trans (hA4.mono hB3.size)
  cases hn:nameB r.name with
  | false =>
   have HB:=Lib.hid (HNO.out (fun h=>by rw [hn] at h;cases h.2))
   have HN2:=Lib.hid (fun u=>(HN.out u).mono (R':=FlP false u) (by rw [hn];exact fun _ _ h=>h))
   clear hn HN
   go_wp2_with fail
   refine (HN2.out _).mono ?_
   rintro e u4 ⟨rfl,hb4⟩
   go_wp2
   go_ret
   exact ⟨by rw [HB.out];rfl,hB4.trans (hb4.mono hB4.size)⟩
  | true =>
   have HB:=Lib.hid (HYE.out rfl hn)
   have HN2:=Lib.hid (fun u=>(HN.out u).mono (R':=FlP true u) (by rw [hn];exact fun _ _ h=>h))
   clear hn HN
   replace kI:=kI.keep hA4
   go_wp2_with fail
   clear iI zI i3 z3 k3
   generalize (u3.alloc (.cells #[.int .i64 p,.int .i64 q] 169))=u5 at *
   refine (HN2.out _).mono ?_
   rintro e u6 ⟨rfl,hb6⟩
   have hB6:=hB4.trans (hb6.mono hB4.size)
   replace kI:=kI.keep hb6
   obtain ⟨iI,-,zI⟩:=kI.cell
   clear hB4 hA4 hb6 hB3
   go_wp2_with fail
   refine (HGL.out u6 (HL.out.keep hB6)).mono ?_
   rintro e u7 ⟨x1,y1,x2,y2,x3,y3,rfl,-,hb7⟩
   have hB7:=hB6.trans (hb7.mono hB6.size)
   replace kI:=kI.keep hb7
   clear iI zI hb7 hB6
   obtain ⟨iI,-,zI⟩:=kI.cell
   go_wp2_with fail
   refine (HGR.out u7 (HR.out.keep hB7)).mono ?_
   rintro e u8 ⟨s1,t1,s2,t2,s3,t3,rfl,-,hb8⟩
   have hB8:=hB7.trans (hb8.mono hB7.size)
   clear iI zI hb8 hB7 kI
   have HB2:=HB.out
   obtain ⟨a,ha⟩:∃ a,(mkG r.left).isSome=a:=⟨_,rfl⟩
   obtain ⟨b,hb⟩:∃ b,(mkG r.right).isSome=b:=⟨_,rfl⟩
   rw [ha,hb] at HB2 ⊢
   have HB3:=Lib.hid HB2
   clear ha hb HB2
   cases a with
   | false =>
    go_wp2
    go_ret
    exact ⟨by rw [HB3.out];rfl,hB8⟩
   | true =>
    cases b with
    | false =>
     go_wp2
     go_ret
     exact ⟨by rw [HB3.out];rfl,hB8⟩
    | true =>
     go_wp2
     go_ret
     exact ⟨by rw [HB3.out];rfl,hB8⟩
 ·have HB:=Lib.hid (HNO.out (fun h=>hxy (by have:=h.1;simp only [Prod.mk.injEq] at this;exact this)))
  have hA4:=alloc_below u3 (.cells #[.int .i64 p',.int .i64 q'] 169)
  have hB4:=hB3.trans (hA4.mono hB3.size)
  by_cases hp:p=p'
  ·have hq:¬ q=q':=fun e=>hxy ⟨hp,e⟩
   clear hxy
   go_wp2
   go_ret
   exact ⟨by rw [HB.out];rfl,hB4⟩
  ·clear hxy
   go_wp2
   go_ret
   exact ⟨by rw [HB.out];rfl,hB4⟩
end Go.Proofs.YtbljmfcifljkaaaGreatDoor
