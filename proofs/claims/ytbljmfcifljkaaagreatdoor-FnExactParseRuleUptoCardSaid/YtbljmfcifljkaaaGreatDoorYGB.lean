/-
  The reference's hgMap: a graph with other wires. Own work; printed by parRg.py.
-/
import Derived.Test.YtbljmfcifljkaaaGreatDoorYGA
import Derived.Test.YtbljmfcifljkaaaGreatDoorYSX
import Derived.ProofKit
set_option linter.all false
set_option maxRecDepth 100000
set_option maxHeartbeats 8000000
namespace Go.Proofs.YtbljmfcifljkaaaGreatDoor
open Go.RowKit
set_option maxRecDepth 100000
set_option maxHeartbeats 8000000
structure MpSt (w wr:World) (bA C D:Nat) (cnt:Int) (vi vo:Value) (li lo:List Int) (L:List EdI) (a:Option Addr) (n c:Nat) (xs:List EdV):Prop where
 blk:Bk wr bA 53 #[.int .i64 cnt,.slice a n c,vi,vo]
 row:EdS wr D (.slice a n c) xs
 len:n=xs.length
 fst:xs.map Prod.fst=L
 inn:Rw wr w.heap.size vi li
 out:Rw wr C vo lo
 bel:Below w.heap.size w wr
 lo:w.heap.size≤bA
 sz:D≤wr.heap.size
theorem MpSt.keep {w wr w':World} {bA C D:Nat} {cnt:Int} {vi vo:Value} {li lo:List Int} {L:List EdI} {a:Option Addr} {n c:Nat} {xs:List EdV} (h:MpSt w wr bA C D cnt vi vo li lo L a n c xs) (hb:Below wr.heap.size wr w'):MpSt w w' bA C D cnt vi vo li lo L a n c xs :=
 ⟨h.blk.keep hb,h.row.keep hb,h.len,h.fst,h.inn.keep hb,h.out.keep hb,h.bel.trans (hb.mono h.bel.size),h.lo,Nat.le_trans h.sz hb.size⟩
theorem hgMap_any (g:GrI) (ve vi vo vt:Value) (tz:List Int) (cnt:Int) (w:World) (hR:GrR w ve vi vo g) (hok:GrB g) (ht:IntsAt w vt tz) (htl:tz.length≤1000) (hin:inTab tz g.places) :
  Calls Tryz.prog 321 #[.agg #[.int .i64 g.wires,ve,vi,vo],vt,.int .i64 cnt] w (GrMs (mvI g cnt tz) w):=by
 obtain ⟨⟨ae,ce,rfl⟩,⟨ai,ci,rfl⟩,ao,co,rfl⟩:=hR.slices
 obtain ⟨pt,ct,rfl⟩:=ht.slice
 have hmp:=fun (u:World) (hu:Below w.heap.size w u) (v:Value) (l:List Int) (hv:IntsAt u v l) (hl:inTab tz l) (hn:l.length≤1000)=>(hgList_any _ v tz l u (ht.keep hu) hv hl (by omega) (by omega)).mono (R':=RwQ (pickL tz l) u) fun _ _ h=>h.q
 obtain ⟨hp1,hp2,hp3⟩:=places_mem (g:=g)
 have HIN:=Lib.hid hin
 have HP:=Lib.hid (And.intro hp1 (And.intro hp2 hp3))
 have HOK:=Lib.hid hok
 have HMP:=Lib.hid hmp
 clear hmp hp1 hp2 hp3 hin
 have hA1:=alloc_below w (.cells #[.int .i64 g.wires,.slice ae g.edges.length ce,.slice ai g.ins.length ci,.slice ao g.outs.length co] 53)
 have hA2:=alloc_below (w.alloc (.cells #[.int .i64 g.wires,.slice ae g.edges.length ce,.slice ai g.ins.length ci,.slice ao g.outs.length co] 53)) (.cells #[.int .i64 0,.slice none 0 0,.slice none 0 0,.slice none 0 0] 53)
 have hB:=hA1.trans (hA2.mono hA1.size)
 have kG:=(Bk.new w 53 #[.int .i64 g.wires,.slice ae g.edges.length ce,.slice ai g.ins.length ci,.slice ao g.outs.length co]).keep hA2
 have kR:=Bk.new (w.alloc (.cells #[.int .i64 g.wires,.slice ae g.edges.length ce,.slice ai g.ins.length ci,.slice ao g.outs.length co] 53)) 53 #[.int .i64 0,.slice none 0 0,.slice none 0 0,.slice none 0 0]
 simp only [World.size_alloc] at kR
 clear hA1 hA2
 go_enter Tryz.func321,Tryz.ntmps321
 go_wp2_with fail
 generalize ((w.alloc (.cells #[.int .i64 g.wires,.slice ae g.edges.length ce,.slice ai g.ins.length ci,.slice ao g.outs.length co] 53)).alloc (.cells #[.int .i64 0,.slice none 0 0,.slice none 0 0,.slice none 0 0] 53))=u0 at *
 have HR1:=Lib.hid kR.lt
 obtain ⟨iG,-,zG⟩:=kG.cell
 have g1:=iG 1
 have g2:=iG 2
 have g3:=iG 3
 simp at g1 g2 g3
 clear iG
 have up0:∀ {w':World},Exc NoT u0.drew w' → Below u0.heap.size u0 w':=fun h=>(Below.refl u0.heap.size u0).drew.trans (h.toBelow.mono (by simp))
 refine region_acts (C:=Exc (NoT) _) 4 [0,1,2,3,4,5,6,7,8,9,10,11] (by kernel_rfl) (by kernel_rfl) (Exc.grows _ _) (Exc.refl _ _) ?_
 iterate 4 (apply x_st rfl rfl rfl;(focus intro u hc' hf';go_simp <;> rfl);intro K hK;go_simp;apply hK;clear hK K)
 refine x_call rfl rfl rfl (Exc.grows _ _) (Exc.refl _ _) 201 (fun K hK=>?_);apply Exists.intro;refine ⟨fun w' hw'=>?_,fun wa hwa hbwa=>?_⟩;(focus go_simp;rfl);refine (HMP.out _ (hB.trans ((up0 hwa).mono hB.size)) _ g.ins (hR.inn.keep (hB.trans ((up0 hwa).mono hB.size))) (fun k hk=>HIN.out k (HP.out.1 k hk)) HOK.out.inn).mono ?_;rintro e w3 ⟨a3,c3,rfl,hr3,hb3⟩;refine ⟨_,rfl,hb3,fun hx=>?_⟩;go_simp;apply hK;clear hK K
 iterate 3 (apply x_st rfl rfl rfl;(focus intro u hc' hf';go_simp <;> rfl);intro K hK;go_simp;apply hK;clear hK K)
 refine x_call rfl rfl rfl (Exc.grows _ _) (hx) 201 (fun K hK=>?_);apply Exists.intro;refine ⟨fun w' hw'=>?_,fun wb hwb hbwb=>?_⟩;(focus go_simp;rfl);refine (HMP.out _ (hB.trans ((up0 hwb).mono hB.size)) _ g.outs (hR.out.keep (hB.trans ((up0 hwb).mono hB.size))) (fun k hk=>HIN.out k (HP.out.2.1 k hk)) HOK.out.out).mono ?_;rintro e w4 ⟨a4,c4,rfl,hr4,hb4⟩;refine ⟨_,rfl,hb4,fun hx=>?_⟩;go_simp;apply hK;clear hK K
 iterate 1 (apply x_st rfl rfl rfl;(focus intro u hc' hf';go_simp <;> rfl);intro K hK;go_simp;apply hK;clear hK K)
 refine x_make rfl rfl rfl (Exc.grows _ _) hx (fun b=>.pointer (some ⟨b,0,none⟩)) (fun K hK=>?_)
 apply Exists.intro
 refine ⟨fun w' hw'=>?_,fun bA w7 hw7 hb7 hbo hNb hnb=>?_⟩
 ·go_simp
  rfl
 go_simp
 refine hK _ _ _ ?_
 clear hK K
 refine x_do rfl rfl rfl (Exc.grows _ _) hw7 (fun K hK=>?_)
 intro w8 hw8 hb8
 have kO:Bk w8 bA 53 #[.int .i64 0,.slice none 0 0,.slice none 0 0,.slice none 0 0]:=(hb8.block bA (made_cell hbo).2.2).trans hbo
 obtain ⟨m0,m1,m2⟩:=kO.cell
 refine ⟨(((w8.setCell ⟨bA,0,none⟩ (.int .i64 cnt)).setCell ⟨bA,1,none⟩ (.slice none 0 0)).setCell ⟨bA,2,none⟩ (.slice a3 (pickL tz g.ins).length c3)).setCell ⟨bA,3,none⟩ (.slice a4 (pickL tz g.outs).length c4),?_,⟨exc_set (exc_set (exc_set (exc_set hw8 (.inl hNb) _) (.inl hNb) _) (.inl hNb) _) (.inl hNb) _,by simp,fun j _ hj _=>by rw [Below.heap_setCell _ _ _ _ (fun h=>hj (by simp [h])),Below.heap_setCell _ _ _ _ (fun h=>hj (by simp [h])),Below.heap_setCell _ _ _ _ (fun h=>hj (by simp [h])),Below.heap_setCell _ _ _ _ (fun h=>hj (by simp [h]))]⟩,?_⟩
 ·go_simp
 go_simp
 refine hK _ _ _ ?_
 clear hK K
 refine x_nil ?_
 have hbA:u0.heap.size≤bA:=by simpa using hNb
 have hu0:w.heap.size≤u0.heap.size:=hB.size
 have hz8:=hb8.size
 obtain ⟨C,D,hC,hD,hst,hsep⟩:∃ C D,u0.heap.size≤C∧C≤D∧MpSt u0 ((((w8.setCell ⟨bA,0,none⟩ (.int .i64 cnt)).setCell ⟨bA,1,none⟩ (.slice none 0 0)).setCell ⟨bA,2,none⟩ (.slice a3 (pickL tz g.ins).length c3)).setCell ⟨bA,3,none⟩ (.slice a4 (pickL tz g.outs).length c4)) bA C D cnt (.slice a3 (pickL tz g.ins).length c3) (.slice a4 (pickL tz g.outs).length c4) (pickL tz g.ins) (pickL tz g.outs) [] none 0 0 []∧(∀ j,(Value.slice a3 (pickL tz g.ins).length c3).ownBlock=some j → j<C)∧∀ j,(Value.slice a4 (pickL tz g.outs).length c4).ownBlock=some j → j<D:=by
  have hb48:Below w4.heap.size w4 w8:=hb7.trans (hb8.mono hb7.size)
  have hr4':=hr4.keep hb48
  have hbs:=(up0 hwb).size
  have hbz:=hbwb.size
  have hb4z:=hb4.size
  have hbz8:=hb48.size
  have hr3':=(((hr3.keep hbwb).keep hb4).keep hb48).mono (B':=u0.heap.size) (by have:=(up0 hwa).size;omega)
  have k1:=kO.set 0 (.int .i64 cnt)
  have k2:=k1.set 1 (.slice none 0 0)
  have k3:=k2.set 2 (.slice a3 (pickL tz g.ins).length c3)
  have k4:=k3.set 3 (.slice a4 (pickL tz g.outs).length c4)
  refine ⟨wb.heap.size,w8.heap.size,hbs,by omega,⟨k4,EdS.nil _ _,rfl,rfl,?_,?_,?_,hbA,by simp⟩,fun j hj=>Nat.lt_of_lt_of_le (World.ownsRow.lt hr3 j hj).2 hbz,fun j hj=>Nat.lt_of_lt_of_le (World.ownsRow.lt hr4 j hj).2 hbz8⟩
  ·exact owns_other (owns_other (owns_other (owns_other hr3' _ _ (row_blk_ne hr3' kO (by decide))) _ _ (row_blk_ne hr3' kO (by decide))) _ _ (row_blk_ne hr3' kO (by decide))) _ _ (row_blk_ne hr3' kO (by decide))
  ·exact owns_other (owns_other (owns_other (owns_other hr4' _ _ (row_blk_ne hr4' kO (by decide))) _ _ (row_blk_ne hr4' kO (by decide))) _ _ (row_blk_ne hr4' kO (by decide))) _ _ (row_blk_ne hr4' kO (by decide))
  ·exact ((((up0 hw8).setCell hbA _).setCell hbA _).setCell hbA _).setCell hbA _
 have HSEP:=Lib.hid (And.intro hC (And.intro hD hsep))
 clear hsep
 clear hx hwa hbwa hwb hbwb hw7 hb7 hbo hNb hnb hw8 hb8 hr3 hr4 hb3 hb4 kO m0 m1 m2 g1 g2 g3 zG up0 hz8
 generalize ((((w8.setCell ⟨bA,0,none⟩ (.int .i64 cnt)).setCell ⟨bA,1,none⟩ (.slice none 0 0)).setCell ⟨bA,2,none⟩ (.slice a3 (pickL tz g.ins).length c3)).setCell ⟨bA,3,none⟩ (.slice a4 (pickL tz g.outs).length c4))=W at *
 generalize (pickL tz g.ins).length=ni at *
 generalize (pickL tz g.outs).length=no at *
 replace kG:=kG.keep hst.bel
 obtain ⟨iG,-,zG⟩:=kG.cell
 have g1:=iG 1
 simp at g1
 clear iG
 go_wp2_with fail
 clear g1 zG kG
 obtain ⟨pe,cpe,hee,hce,hate⟩:=hR.ed
 simp only [Value.slice.injEq] at hee
 obtain ⟨rfl,-,rfl⟩:=hee
 have hel:=HOK.out.ed
 go_loopw [23] (fun i wr=>∃ k:Nat,k≤g.edges.length∧i=.int .i64 k∧∃ a n c xs,MpSt u0 wr bA C D cnt (.slice a3 ni c3) (.slice a4 no c4) (pickL tz g.ins) (pickL tz g.outs) ((g.edges.take k).map (mvE tz)) a n c xs) (fun i _=>g.edges.length - (intOf i).toNat)
 case atStart=>exact ⟨0,Nat.zero_le _,rfl,none,0,0,[],hst⟩
 case round =>
  clear hst
  obtain ⟨k,hk,rfl,a,n,c,xs,hst⟩:=hrel
  by_cases hlt:k<g.edges.length
  ·obtain ⟨b,o,rfl,_,hnd⟩:=hate k hlt
   have hbw:=hB.trans (hst.bel.mono hB.size)
   obtain ⟨d0,d1,x1,x2,d2,d3,hi,ho⟩:=hnd.keep hbw
   have hIe:=HP.out.2.2 k hlt
   have hOe:=HOK.out.eds _ (List.getElem_mem hlt)
   have hti:=take_one g.edges k hlt
   obtain ⟨e,he⟩:∃ e,g.edges[k]=e:=⟨_,rfl⟩
   rw [he] at d0 d1 hi ho hIe hOe hti
   obtain ⟨a1,q1,rfl⟩:=hi.slice
   obtain ⟨a2,q2,rfl⟩:=ho.slice
   have bz:=cell_lt d0
   have hxl:xs.length=k:=by have:=congrArg List.length hst.fst;simp at this;omega
   have HXL:=Lib.hid hxl
   have HIE:=Lib.hid (And.intro hIe hOe)
   have HTI:=Lib.hid hti
   have hAl:=alloc_below wr (.cells #[.int .i64 e.kind,.int .i64 e.value,.slice a1 e.ins.length q1,.slice a2 e.outs.length q2] 189)
   have kE:=Bk.new wr 189 #[.int .i64 e.kind,.int .i64 e.value,.slice a1 e.ins.length q1,.slice a2 e.outs.length q2]
   have hst1:=hst.keep hAl
   have hn0:=hst.len
   have hb1:=hst1.bel
   replace hi:=hi.keep hAl
   replace ho:=ho.keep hAl
   clear hate hnd he hIe hOe hti hst hxl
   go_wp2_with fail
   generalize (wr.alloc (.cells #[.int .i64 e.kind,.int .i64 e.value,.slice a1 e.ins.length q1,.slice a2 e.outs.length q2] 189))=u1 at *
   clear d0 d1 d2 d3 bz hAl
   obtain ⟨iE,-,zE⟩:=kE.cell
   have e0:=iE 0
   have e1:=iE 1
   have e2:=iE 2
   have e3:=iE 3
   simp at e0 e1 e2 e3
   obtain ⟨iO,-,zO⟩:=hst1.blk.cell
   have o1:=iO 1
   simp at o1
   clear iE iO
   generalize wr.heap.size=E at *
   have hBu:=hB.trans (hb1.mono hB.size)
   have up1:∀ {w':World},Exc NoT u1.drew w' → Below u1.heap.size u1 w':=fun h=>(Below.refl u1.heap.size u1).drew.trans (h.toBelow.mono (by simp))
   have HN:=Lib.hid hn0
   clear hn0
   refine region_acts2 (C:=Exc (NoT) _) 9 [0,1,2,3,4,5,6,7,8,9,10,11,12,13,14,15] [16,17,18] (by kernel_rfl) (by kernel_rfl) (Exc.grows _ _) (Exc.refl _ _) ?_
   iterate 9 (apply x_st rfl rfl rfl;(focus intro u hc' hf';go_simp <;> rfl);intro K hK;go_simp;apply hK;clear hK K)
   refine x_call rfl rfl rfl (Exc.grows _ _) (Exc.refl _ _) 201 (fun K hK=>?_);apply Exists.intro;refine ⟨fun w' hw'=>?_,fun wa hwa hbwa=>?_⟩;(focus go_simp;rfl);refine (HMP.out _ (hBu.trans ((up1 hwa).mono hBu.size)) _ e.ins (hi.keep (up1 hwa)) (fun k hk=>HIN.out k (HIE.out.1.1 k hk)) HIE.out.2.1).mono ?_;rintro e w3 ⟨a5,c5,rfl,hr5,hb5⟩;refine ⟨_,rfl,hb5,fun hx=>?_⟩;go_simp;apply hK;clear hK K
   iterate 3 (apply x_st rfl rfl rfl;(focus intro u hc' hf';go_simp <;> rfl);intro K hK;go_simp;apply hK;clear hK K)
   refine x_call rfl rfl rfl (Exc.grows _ _) (hx) 201 (fun K hK=>?_);apply Exists.intro;refine ⟨fun w' hw'=>?_,fun wb hwb hbwb=>?_⟩;(focus go_simp;rfl);refine (HMP.out _ (hBu.trans ((up1 hwb).mono hBu.size)) _ e.outs (ho.keep (up1 hwb)) (fun k hk=>HIN.out k (HIE.out.1.2 k hk)) HIE.out.2.2).mono ?_;rintro e w4 ⟨a6,c6,rfl,hr6,hb6⟩;refine ⟨_,rfl,hb6,fun hx=>?_⟩;go_simp;apply hK;clear hK K
   iterate 1 (apply x_st rfl rfl rfl;(focus intro u hc' hf';go_simp <;> rfl);intro K hK;go_simp;apply hK;clear hK K)
   refine x_make rfl rfl rfl (Exc.grows _ _) (hx) (fun b=>.slice (some ⟨b,0,none⟩) 1 1) (fun K hK=>?_)
   apply Exists.intro
   refine ⟨fun w' hw'=>?_,fun bb w5 hw5 hb45 hbo hNb hnb=>?_⟩
   ·obtain ⟨hc',hf'⟩:=hw'.cell
    try simp only [World.size_drew] at hc' hf'
    go_simp
    rfl
   go_simp
   refine hK _ _ _ ?_
   clear hK K
   refine x_nil ?_
   have hb15:Below u1.heap.size u1 w5:=up1 hw5
   have hs01:=hb1.size
   have hs15:=hb15.size
   have hsz:=hst1.sz
   have hst5:EdS w5 D (.slice a n c) xs:=hst1.row.keep hb15
   have kO5:=hst1.blk.keep hb15
   have hbA5:=kO5.lt
   have hia:=(up1 hwa).size
   have hib:=(up1 hwb).size
   have hr5':=((((hr5.keep hbwb).keep hb6).keep hb45).mono (B':=D) (by omega))
   have hr6':=((hr6.keep hb45).mono (B':=D) (by omega))
   have hys:EdAll w5 D [(mvE tz e,.slice a5 (pickL tz e.ins).length c5,.slice a6 (pickL tz e.outs).length c6)]:=fun y hy=>by
    obtain rfl:=List.mem_singleton.1 hy
    exact ⟨hr5',hr6'⟩
   have hxl2:xs.length+1≤100000:=by have:=HXL.out;omega
   refine ⟨Exc (fun j=>j=bA∨(Value.slice a n c).ownBlock=some j) w5,w5.heap.size,Exc.grows _ _,Exc.refl _ _,?_⟩
   refine x_edapp rfl rfl rfl (Exc.refl _ _) (.tmp 28) (.tmp 42) rfl D (.slice a n c) xs [(mvE tz e,.slice a5 (pickL tz e.ins).length c5,.slice a6 (pickL tz e.outs).length c6)] bb 1 1 rfl rfl rfl (fun j hj=>.inl ⟨(World.ownsRow.lt hst5.row j hj).2,.inr hj⟩) (by omega) hxl2 hst5 hys (by simpa [edCells,mvE] using hbo) ?_
   intro K hK w6 w7 v7 hw6 hb56 hed hgr hw7 hv7
   obtain ⟨a7,c7,hv7e⟩:=hed.shape
   rw [List.length_append,List.length_singleton] at hv7e
   subst hv7e
   go_simp
   refine hK _ _ _ ?_
   clear hK K
   iterate 1 (apply x_sT rfl rfl rfl;(focus intro u hc' hf';(try simp only [World.size_drew] at hc' hf');go_simp <;> rfl);intro K hK;go_simp;apply hK;clear hK K)
   refine x_do rfl rfl rfl (Exc.grows _ _) hw7 (fun K hK=>?_)
   intro w8 hw8 hb78
   have kO8:Bk w8 bA 53 #[.int .i64 cnt,.slice a n c,.slice a3 ni c3,.slice a4 no c4]:=((kO5.keep hb56).grown hgr (row_blk_ne hst5.row kO5 (by decide))).keep hb78
   obtain ⟨m0,m1,m2⟩:=kO8.cell
   refine ⟨w8.setCell ⟨bA,1,none⟩ (.slice a7 (xs.length+1) c7),?_,⟨exc_set hw8 (.inr (.inl rfl)) _,by simp,fun j hN _ _=>by rw [Below.heap_setCell _ _ _ _ (fun h=>by simp at h;omega)]⟩,?_⟩
   ·go_simp
   go_simp
   refine hK _ _ _ ?_
   clear hK K
   refine x_nil ?_
   have hed8:=hed.keep hb78
   have hb5n:Below u0.heap.size w5 w7:=((Below.refl _ _).trans (hb56.mono (by omega))).grown hgr (by have:=hb56.size;omega) (fun j hj=>Nat.le_trans (Nat.le_trans HSEP.out.1 HSEP.out.2.1) (World.ownsRow.lt hst5.row j hj).1)
   have hs57:=hb5n.size
   have hs78:=hb78.size
   have hb57:Below u0.heap.size u0 w7:=(hb1.trans (hb15.mono hs01)).trans hb5n
   have mv:∀ (B':Nat) (u:Value) zs,Rw u1 B' u zs → Rw (w8.setCell ⟨bA,1,none⟩ (.slice a7 (xs.length+1) c7)) B' u zs:=fun B' u zs hu=>by
    have h5:=hu.keep hb15
    have h8:=((h5.keep hb56).grown hgr (fun k hk e=>owns_ne h5 hst5.row (by decide) k hk e)).keep hb78
    exact owns_other h8 _ _ (row_blk_ne h8 kO8 (by decide))
   have hstN:MpSt u0 (w8.setCell ⟨bA,1,none⟩ (.slice a7 (xs.length+1) c7)) bA C D cnt (.slice a3 ni c3) (.slice a4 no c4) (pickL tz g.ins) (pickL tz g.outs) ((g.edges.take (k+1)).map (mvE tz)) a7 (xs.length+1) c7 (xs ++ [(mvE tz e,.slice a5 (pickL tz e.ins).length c5,.slice a6 (pickL tz e.outs).length c6)]) :=
    ⟨kO8.set 1 _,hed8.setB kO8 (by decide) (by decide) 1 _,by simp,by rw [List.map_append,hst1.fst,HTI.out,List.map_append];rfl,mv _ _ _ hst1.inn,mv _ _ _ hst1.out,(hb57.trans (hb78.mono (by have:=hb57.size;omega))).setCell hst1.lo _,hst1.lo,by simp;omega⟩
   have HST:=Lib.hid hstN
   clear hstN mv hb57 hb5n hs57 hs78 hsz hed8 kO8 m0 m1 m2 hw8 hb78 hgr hw7 hv7 hed hw6 hb56 hys hr5' hr6' hst5 kO5 hbo hNb hnb hw5 hb45 hx hwa hbwa hwb hbwb hr5 hr6 hb5 hb6 up1 e0 e1 e2 e3 o1 kE zE zO hi ho hst1
   go_wp2
   go_roundw
   case rel=>exact ⟨k+1,by omega,by go_num,a7,_,c7,_,HST.out⟩
   case measure=>simp [intOf];omega
  ·obtain rfl:k=g.edges.length:=by omega
   rw [List.take_length] at hst
   have hfst:=hst.fst
   have hed:=hst.row.o
   rw [hfst] at hed
   have hG:GrS wr u0.heap.size (.slice a n c) (.slice a3 ni c3) (.slice a4 no c4) (mvI g cnt tz):=⟨C,D,HSEP.out.1,HSEP.out.2.1,hed,hst.inn,hst.out,HSEP.out.2.2.1,HSEP.out.2.2.2,hst.sz⟩
   have hBw:=hB.trans (hst.bel.mono hB.size)
   replace kR:=kR.keep hst.bel
   obtain ⟨iR,fR,zR⟩:=kR.cell
   obtain ⟨iO,-,zO⟩:=hst.blk.cell
   have hlow:w.heap.size+1<u0.heap.size:=HR1.out
   have HG:=Lib.hid hG
   clear hate hfst hed hG hst
   go_wp2
   refine bodyPost_ret (v:=.agg #[.int .i64 cnt,.slice a n c,.slice a3 ni c3,.slice a4 no c4]) (by simp [results,Tryz.results321,go_sem,iR]) rfl ⟨_,_,_,rfl,?_,?_⟩
   ·exact (((((HG.out).low (a:=⟨w.heap.size+1,0,none⟩) hlow _).low (a:=⟨w.heap.size+1,1,none⟩) hlow _).low (a:=⟨w.heap.size+1,2,none⟩) hlow _).low (a:=⟨w.heap.size+1,3,none⟩) hlow _).mono hB.size
   ·exact (((hBw.setCell (by simp) _).setCell (by simp) _).setCell (by simp) _).setCell (by simp) _
end Go.Proofs.YtbljmfcifljkaaaGreatDoor
/-
  Own rows of edges appended outside a drawn region; hgOwn and the identity graphs. Own work.
-/
namespace Go.Proofs.YtbljmfcifljkaaaGreatDoor
open Go.RowKit
set_option maxRecDepth 100000
set_option maxHeartbeats 4000000
theorem owns_src {w:World} {B e sz:Nat} {v:Value} {n:Nat} {xs:List Value} (h:w.ownsRow B e sz v n xs):SrcAt w sz v n xs:=by
 refine ⟨h.1,?_⟩
 have h':=h
 rcases h.2 with ⟨rfl,rfl⟩|⟨g,cap,cur,rfl,hb,hh,hc,hm,hs,ht⟩
 ·exact .inl ⟨rfl,0,rfl⟩
 ·refine .inr ⟨_,_,rfl,fun j u hj=>?_⟩
  have hl:j<xs.length:=(List.getElem?_eq_some_iff.1 hj).1
  rw [addr_add,Nat.zero_add,h'.cellAt j (by rw [← h.1];exact hl),hj]
theorem eds_append {w:World} {v u:Value} {L M:List EdI} {B B':Nat} (h:EdsO w B v L) (h':EdsO w B' u M) {ops:Array Oper} {rest:List Oper} {o:Oper} {a:Act} {Q:Exit → Act → World → Prop} (hgd:o.guard=none) (s x:Operand)
  (ho:o.op=.call { callee:=.builtin .append,args:=#[s,x],argTypes:=#[51,51] })
  (hs:a.eval s=v) (hx:a.eval x=u) (hBB:B≤B') (hB:B≤w.heap.size) (hl:L.length+M.length≤100000)
  (H:∀ v' w',EdsO w' B v' (L ++ M) → w.grownBy w' v.ownBlock → (v'.ownBlock=v.ownBlock∨v'.ownBlock=some w.heap.size) → wpList Tryz.prog ops Q rest (a.put o.dst v') w'):wpList Tryz.prog ops Q (o :: rest) a w:=by
 obtain ⟨i0,hi,hz0,hz1,hz2⟩:=info_parts infoEdge
 obtain ⟨xs,rfl,h1,h2⟩:=h
 obtain ⟨ys,rfl,h3,h4⟩:=h'
 rw [List.length_map,List.length_map] at hl
 have hx1:EdS w B v xs:=⟨h1,h2⟩
 have hy1:EdAll w B ys:=EdAll.mono hBB h4
 refine wpList_append_src hgd s x 51 ho B 189 i0 _ 4 64 Tryz.underlying51 hi hz0 hz1 hz2 rfl (by decide) v xs.length _ hs h1 u ys.length _ hx (owns_src h3) (edAll_one hy1) (by unfold maxLen;omega) (by omega) hB ?_
 intro v' w' r1 r2 r3
 refine H v' w' ?_ r2 r3
 have:=(hx1.app hy1 r1 r2).o
 rwa [List.map_append] at this
theorem EdsO.shape {w:World} {B:Nat} {v:Value} {L:List EdI} (h:EdsO w B v L):∃ a cap,v=.slice a L.length cap:=by
 obtain ⟨xs,rfl,h1,h2⟩:=h
 obtain ⟨a,c,e⟩:=EdS.shape ⟨h1,h2⟩
 exact ⟨a,c,by rw [e,List.length_map]⟩
theorem EdsO.setB {w:World} {B b:Nat} {v:Value} {L:List EdI} {t:TypeId} {cs:Array Value} (h:EdsO w B v L) (kb:Bk w b t cs) (h1:189 ≠ t) (h2:3 ≠ t) (j:Nat) (u:Value):EdsO (w.setCell ⟨b,j,none⟩ u) B v L:=by
 obtain ⟨xs,rfl,h3,h4⟩:=h
 exact (EdS.setB ⟨h3,h4⟩ kb h1 h2 j u).o
theorem Rw.setB {w:World} {B b:Nat} {v:Value} {l:List Int} {t:TypeId} {cs:Array Value} (h:Rw w B v l) (kb:Bk w b t cs) (h2:3 ≠ t) (j:Nat) (u:Value):Rw (w.setCell ⟨b,j,none⟩ u) B v l:=owns_other h _ _ (row_blk_ne h kb h2)
theorem GrO.setB {w:World} {B b:Nat} {ve vi vo:Value} {g:GrI} {t:TypeId} {cs:Array Value} (h:GrO w B ve vi vo g) (kb:Bk w b t cs) (h1:189 ≠ t) (h2:3 ≠ t) (j:Nat) (u:Value):GrO (w.setCell ⟨b,j,none⟩ u) B ve vi vo g :=
 ⟨h.ed.setB kb h1 h2 j u,h.inn.setB kb h2 j u,h.out.setB kb h2 j u⟩
theorem GrS.setB {w:World} {B b:Nat} {ve vi vo:Value} {g:GrI} {t:TypeId} {cs:Array Value} (h:GrS w B ve vi vo g) (kb:Bk w b t cs) (h1:189 ≠ t) (h2:3 ≠ t) (j:Nat) (u:Value):GrS (w.setCell ⟨b,j,none⟩ u) B ve vi vo g:=by
 obtain ⟨C,D,q1,q2,q3,q4,q5,q6,q7,q8⟩:=h
 exact ⟨C,D,q1,q2,q3.setB kb h1 h2 j u,q4.setB kb h2 j u,q5.setB kb h2 j u,q6,q7,by rw [World.size_setCell];exact q8⟩
theorem owns_grow {w w':World} {B e sz n:Nat} {v:Value} {xs:List Value} {row:Option Nat} (h:w.ownsRow B e sz v n xs) (hg:w.grownBy w' row) (hr:∀ k,v.ownBlock=some k → row ≠ some k):w'.ownsRow B e sz v n xs:=by
 refine ⟨h.1,?_⟩
 rcases h.2 with hn|⟨g,cap,cur,rfl,hbb,hgg,rest⟩
 ·exact .inl hn
 ·exact .inr ⟨g,cap,cur,rfl,hbb,(hg.block g (Array.getElem?_eq_some_iff.1 hgg).1 (fun e=>hr g rfl e.symm)).trans hgg,rest⟩
theorem EdsO.grown {w w':World} {B:Nat} {v r:Value} {L:List EdI} (h:EdsO w B v L) (hg:w.grownBy w' r.ownBlock) {B2 n:Nat} {zs:List Value} (hr:w.ownsRow B2 3 1 r n zs) (hlt:∀ j,r.ownBlock=some j → j<B):EdsO w' B v L:=by
 obtain ⟨xs,rfl,h3,h4⟩:=h
 have mv:∀ (u:Value) l,Rw w B u l → Rw w' B u l:=fun u l hu=>hu.grown hg fun k hk e=>by
  have:=(World.ownsRow.lt hu k hk).1
  have:=hlt k e
  omega
 exact ⟨xs,rfl,owns_grow h3 hg (fun k hk e=>owns_ne h3 hr (by decide) k hk e),fun x hx=>⟨mv _ _ (h4 x hx).1,mv _ _ (h4 x hx).2⟩⟩
theorem pickL_up (n:Nat) (l:List Int) (h:inTab (upL n) l):pickL (upL n) l=l:=by
 unfold pickL
 rw [List.map_congr_left (g:=id),List.map_id]
 intro k hk
 obtain ⟨h1,h2⟩:=h k hk
 obtain ⟨m,rfl⟩:∃ m:Nat,k=m:=⟨k.toNat,by omega⟩
 rw [upL_len] at h2
 have hm:m<(upL n).length:=by rw [upL_len];omega
 rw [Int.toNat_natCast,List.getD_eq_getElem?_getD,List.getElem?_eq_getElem hm,upL_get]
 rfl
theorem mvI_up (g:GrI) (n:Nat) (h:inTab (upL n) g.places) (hg:g.wires=n):mvI g n (upL n)=g:=by
 obtain ⟨hp1,hp2,hp3⟩:=places_mem (g:=g)
 obtain ⟨W,E,I,O⟩:=g
 subst hg
 unfold mvI
 rw [pickL_up n _ fun k hk=>h k (hp1 k hk),pickL_up n _ fun k hk=>h k (hp2 k hk)]
 congr 1
 show E.map _=E
 rw [List.map_congr_left (g:=id),List.map_id]
 intro e he
 obtain ⟨i,hi,rfl⟩:=List.getElem_of_mem he
 unfold mvE
 rw [pickL_up n _ fun k hk=>h k ((hp3 i hi).1 k hk),pickL_up n _ fun k hk=>h k ((hp3 i hi).2 k hk)]
 rfl
theorem GrMs.q {g:GrI} {w w':World} {e:Ending} (h:GrMs g w e w'):∃ a1 c1 a2 c2 a3 c3,e=.returned (.agg #[.int .i64 g.wires,.slice a1 g.edges.length c1,.slice a2 g.ins.length c2,.slice a3 g.outs.length c3]) ∧
  GrS w' w.heap.size (.slice a1 g.edges.length c1) (.slice a2 g.ins.length c2) (.slice a3 g.outs.length c3) g∧Below w.heap.size w w':=by
 obtain ⟨v1,v2,v3,rfl,h1,h2⟩:=h
 obtain ⟨⟨x1,y1,rfl⟩,⟨x2,y2,rfl⟩,x3,y3,rfl⟩:=h1.o.at.slices
 exact ⟨x1,y1,x2,y2,x3,y3,rfl,h1,h2⟩
theorem GrMk.q {g:GrI} {w w':World} {e:Ending} (h:GrMk g w e w'):∃ a1 c1 a2 c2 a3 c3,e=.returned (.agg #[.int .i64 g.wires,.slice a1 g.edges.length c1,.slice a2 g.ins.length c2,.slice a3 g.outs.length c3]) ∧
  GrO w' w.heap.size (.slice a1 g.edges.length c1) (.slice a2 g.ins.length c2) (.slice a3 g.outs.length c3) g∧Below w.heap.size w w':=by
 obtain ⟨v1,v2,v3,rfl,h1,h2⟩:=h
 obtain ⟨⟨x1,y1,rfl⟩,⟨x2,y2,rfl⟩,x3,y3,rfl⟩:=h1.at.slices
 exact ⟨x1,y1,x2,y2,x3,y3,rfl,h1,h2⟩
theorem GrMs.k {g:GrI} {w w':World} {e:Ending} (h:GrMs g w e w'):GrMk g w e w':=by
 obtain ⟨v1,v2,v3,rfl,h1,h2⟩:=h
 exact ⟨v1,v2,v3,rfl,h1.o,h2⟩
theorem hgOwn_any (W:Nat) (E:List EdI) (I O:List Int) (ve vi vo:Value) (w:World) (hR:GrR w ve vi vo ⟨W,E,I,O⟩) (hn:W≤1000) (hok:GrB ⟨W,E,I,O⟩) (hin:inTab (upL W) (GrI.places ⟨W,E,I,O⟩)) :
  Calls Tryz.prog 320 #[.agg #[.int .i64 W,ve,vi,vo]] w (GrMs ⟨W,E,I,O⟩ w):=by
 obtain ⟨ae,ce,rfl⟩:=hR.ed.slice
 obtain ⟨ai,ci,rfl⟩:=hR.inn.slice
 obtain ⟨ao,co,rfl⟩:=hR.out.slice
 obtain ⟨i0,hi,hz0,hz1,hz2⟩:=info_parts infoInt
 dsimp only at hR ⊢
 have hA1:=alloc_below w (.cells #[.int .i64 W,.slice ae E.length ce,.slice ai I.length ci,.slice ao O.length co] 53)
 have hA2:=alloc_below (w.alloc (.cells #[.int .i64 W,.slice ae E.length ce,.slice ai I.length ci,.slice ao O.length co] 53)) (.cells #[.int .i64 0,.slice none 0 0,.slice none 0 0,.slice none 0 0] 53)
 have hB:=hA1.trans (hA2.mono hA1.size)
 have kG:=(Bk.new w 53 #[.int .i64 W,.slice ae E.length ce,.slice ai I.length ci,.slice ao O.length co]).keep hA2
 have kR:=Bk.new (w.alloc (.cells #[.int .i64 W,.slice ae E.length ce,.slice ai I.length ci,.slice ao O.length co] 53)) 53 #[.int .i64 0,.slice none 0 0,.slice none 0 0,.slice none 0 0]
 simp only [World.size_alloc] at kR
 clear hA1 hA2
 obtain ⟨u0,hu0⟩:∃ u,u=((w.alloc (.cells #[.int .i64 W,.slice ae E.length ce,.slice ai I.length ci,.slice ao O.length co] 53)).alloc (.cells #[.int .i64 0,.slice none 0 0,.slice none 0 0,.slice none 0 0] 53)):=⟨_,rfl⟩
 rw [← hu0] at hB kG kR
 go_enter Tryz.func320,Tryz.ntmps320
 go_wp2_with (at_make;refine wpList_make_full _ rfl _ _ _ rfl (w.heap.size+2) 3 i0 _ 1 Tryz.underlying40 hi hz0 hz1 _ _ _ _ W rfl rfl rfl rfl (by rw [hz2];omega) (by unfold maxLen;omega) (by simp) ?_;intro w1 hown hgr)
 rw [← hu0] at hgr
 have hsz:u0.heap.size=w.heap.size+2:=by rw [hu0];simp
 clear hu0
 have hz:=made_flat (f:=iCell) (0:Int) W (sz:=1) (by omega) rfl
 have hb1:Below u0.heap.size u0 w1:=(Below.refl _ _).grown hgr (Nat.le_refl _) (by simp)
 have hr1:Rw w1 u0.heap.size (.slice (some ⟨u0.heap.size,0,none⟩) W W) (List.replicate W 0):=by
  unfold Rw
  rw [List.length_replicate,← hz,hsz]
  simp only [World.size_alloc] at hown
  exact hown
 rw [hsz] at hr1
 have HR1:=Lib.hid hr1
 have HSZ:=Lib.hid hsz
 clear hz hown hgr hi hz0 hz1 hz2 hr1 hsz
 go_loopw [10] (fun i wr=>∃ k:Nat,k≤W∧i=.int .i64 k∧Rw wr (w.heap.size+2) (.slice (some ⟨w.heap.size+2,0,none⟩) W W) ((upL W).take k ++ (List.replicate W (0:Int)).drop k)∧Below u0.heap.size u0 wr) (fun i _=>W - (intOf i).toNat)
 case atStart=>exact ⟨0,Nat.zero_le _,rfl,by simpa using HR1.out,hb1⟩
 case round =>
  clear HR1 hb1
  obtain ⟨k,hk,rfl,hrow,hbel⟩:=hrel
  by_cases hlt:k<W
  ·obtain ⟨⟨d0,f0⟩,hset⟩:=hrow.fill (upL_len W) (by simp) hlt
   rw [upL_get] at hset
   rw [List.getElem_replicate] at d0
   have HS:=Lib.hid hset
   have hge:u0.heap.size≤w.heap.size+2:=by have:=HSZ.out;omega
   have HGE:=Lib.hid hge
   clear hrow hset hge
   go_wp2
   go_roundw
   case rel=>exact ⟨k+1,by omega,by go_num,HS.out,hbel.setCell HGE.out _⟩
   case measure=>simp [intOf];omega
  ·obtain rfl:k=W:=by omega
   have HF:=Lib.hid (hrow.full (upL_len _) (by simp))
   clear hrow
   have hBw:=hB.trans (hbel.mono hB.size)
   replace kG:=kG.keep hbel
   replace kR:=kR.keep hbel
   obtain ⟨iG,fG,zG⟩:=kG.cell
   obtain ⟨iR,fR,zR⟩:=kR.cell
   have hC:=hgMap_any ⟨k,E,I,O⟩ _ _ _ _ (upL k) k wr (hR.keep hBw) hok HF.out.at (by rw [upL_len];exact hn) hin
   rw [mvI_up _ k hin rfl] at hC
   have HC:=Lib.hid hC
   clear hC
   go_wp2_with fail
   refine HC.out.mono ?_
   intro q w2 hq
   obtain ⟨x1,y1,x2,y2,x3,y3,rfl,hg2,hb2⟩:=hq.q
   clear hq
   dsimp only at hg2 ⊢
   have hBw2:=hBw.trans (hb2.mono hBw.size)
   replace kR:=kR.keep hb2
   have hlow:w.heap.size+1<wr.heap.size:=zR
   have HG:=Lib.hid hg2
   clear iR fR zR iG fG zG kG hg2
   obtain ⟨iR,fR,zR⟩:=kR.cell
   go_wp2
   refine bodyPost_ret (v:=.agg #[.int .i64 k,.slice x1 E.length y1,.slice x2 I.length y2,.slice x3 O.length y3]) (by simp [results,Tryz.results320,go_sem,iR]) rfl ⟨_,_,_,rfl,?_,?_⟩
   ·exact (((((HG.out).low (a:=⟨w.heap.size+1,0,none⟩) hlow _).low (a:=⟨w.heap.size+1,1,none⟩) hlow _).low (a:=⟨w.heap.size+1,2,none⟩) hlow _).low (a:=⟨w.heap.size+1,3,none⟩) hlow _).mono hBw.size
   ·exact (((hBw2.setCell (by simp) _).setCell (by simp) _).setCell (by simp) _).setCell (by simp) _
end Go.Proofs.YtbljmfcifljkaaaGreatDoor
/-
  The reference's hgBeside and hgPar: two graphs beside each other. Own work.
-/
namespace Go.Proofs.YtbljmfcifljkaaaGreatDoor
open Go.RowKit
set_option maxRecDepth 100000
set_option maxHeartbeats 4000000
structure GrW (g:GrI) (n:Nat):Prop where
 le:n≤1000
 ok:GrB g
 rng:∀ k ∈ g.places,0≤k∧k<(n:Int)
 cnt:g.origs.length≤1000000∧g.dests.length≤1000000
theorem GrW.up {g:GrI} {n:Nat} (h:GrW g n):inTab (upL n) g.places:=fun k hk=>by rw [upL_len];exact h.rng k hk
theorem GrW.from {g:GrI} {n:Nat} (h:GrW g n) (a:Nat):inTab (fromL a n) g.places:=fun k hk=>by rw [fromL_len];exact h.rng k hk
def bsI (A B:Nat) (E E':List EdI) (I I' O O':List Int):GrI:=⟨((A+B:Nat):Int),E ++ E'.map (mvE (fromL A B)),I ++ pickL (fromL A B) I',O ++ pickL (fromL A B) O'⟩
structure BsSt (w0 w:World) (B D b7 b8 bR:Nat) (c7 c8:Int) (e i o e' i' o':Value) (E:List EdI) (I O:List Int) (E':List EdI) (I' O':List Int):Prop where
 k7:Bk w b7 53 #[.int .i64 c7,e,i,o]
 k8:Bk w b8 53 #[.int .i64 c8,e',i',o']
 kR:Bk w bR 53 #[.int .i64 0,.slice none 0 0,.slice none 0 0,.slice none 0 0]
 ed:EdsO w D e E
 inn:Rw w B i I
 out:Rw w B o O
 ed':EdsO w D e' E'
 inn':Rw w D i' I'
 out':Rw w D o' O'
 bel:Below w0.heap.size w0 w
 lo:w0.heap.size≤B
 lo7:w0.heap.size≤b7
 ne8:b8 ≠ b7
 neR:bR ≠ b7
 ho:∀ j,o.ownBlock=some j → j<D
theorem BsSt.inn1 {w0 w w':World} {B D b7 b8 bR:Nat} {c7 c8:Int} {e i o e' i' o' v:Value} {E:List EdI} {I O:List Int} {E':List EdI} {I' O' L:List Int} (h:BsSt w0 w B D b7 b8 bR c7 c8 e i o e' i' o' E I O E' I' O')
  (hi:∀ j,i.ownBlock=some j → j<D) (ap:Apart i o) (hr:Rw w' B v L) (hg:w.grownBy w' i.ownBlock) (hv:v.ownBlock=i.ownBlock∨v.ownBlock=some w.heap.size) :
  Bk w' b7 53 #[.int .i64 c7,e,i,o]∧Bk w' b8 53 #[.int .i64 c8,e',i',o']∧Apart v o∧BsSt w0 (w'.setCell ⟨b7,2,none⟩ v) B D b7 b8 bR c7 c8 e v o e' i' o' E L O E' I' O':=by
 have k7:=h.k7.grown hg (row_blk_ne h.inn h.k7 (by decide))
 have k8:=h.k8.grown hg (row_blk_ne h.inn h.k8 (by decide))
 have kR:=h.kR.grown hg (row_blk_ne h.inn h.kR (by decide))
 have mv:∀ (u:Value) l,Rw w D u l → Rw w' D u l:=fun u l hu=>hu.grown hg fun k hk e=>by
  have:=(World.ownsRow.lt hu k hk).1
  have:=hi k e
  omega
 have ho:=h.out.grown hg fun k hk e=>ap k e hk
 refine ⟨k7,k8,fun k hk hk'=>?_,⟨k7.set 2 v,k8.other _ _ h.ne8,kR.other _ _ h.neR,(h.ed.grown hg h.inn hi).setB k7 (by decide) (by decide) 2 v,hr.setB k7 (by decide) 2 v,ho.setB k7 (by decide) 2 v,(h.ed'.grown hg h.inn hi).setB k7 (by decide) (by decide) 2 v,(mv _ _ h.inn').setB k7 (by decide) 2 v,(mv _ _ h.out').setB k7 (by decide) 2 v,?_,h.lo,h.lo7,h.ne8,h.neR,h.ho⟩⟩
 ·rcases hv with hv|hv
  ·rw [hv] at hk;exact ap k hk hk'
  ·rw [hv] at hk
   have:=(World.ownsRow.lt h.out k hk').2
   simp at hk
   omega
 ·exact (h.bel.grown hg h.bel.size (fun j hj=>Nat.le_trans h.lo (World.ownsRow.lt h.inn j hj).1)).setCell h.lo7 _
theorem BsSt.out1 {w0 w w':World} {B D b7 b8 bR:Nat} {c7 c8:Int} {e i o e' i' o' v:Value} {E:List EdI} {I O:List Int} {E':List EdI} {I' O' L:List Int} (h:BsSt w0 w B D b7 b8 bR c7 c8 e i o e' i' o' E I O E' I' O')
  (ap:Apart i o) (hr:Rw w' B v L) (hg:w.grownBy w' o.ownBlock) :
  Bk w' b7 53 #[.int .i64 c7,e,i,o]∧Bk w' b8 53 #[.int .i64 c8,e',i',o']∧Bk (w'.setCell ⟨b7,3,none⟩ v) b7 53 #[.int .i64 c7,e,i,v]∧Bk (w'.setCell ⟨b7,3,none⟩ v) b8 53 #[.int .i64 c8,e',i',o']∧Bk (w'.setCell ⟨b7,3,none⟩ v) bR 53 #[.int .i64 0,.slice none 0 0,.slice none 0 0,.slice none 0 0] ∧
   EdsO (w'.setCell ⟨b7,3,none⟩ v) D e E∧EdsO (w'.setCell ⟨b7,3,none⟩ v) D e' E'∧Rw (w'.setCell ⟨b7,3,none⟩ v) B i I∧Rw (w'.setCell ⟨b7,3,none⟩ v) B v L∧Below w0.heap.size w0 (w'.setCell ⟨b7,3,none⟩ v):=by
 have k7:=h.k7.grown hg (row_blk_ne h.out h.k7 (by decide))
 have k8:=h.k8.grown hg (row_blk_ne h.out h.k8 (by decide))
 have kR:=h.kR.grown hg (row_blk_ne h.out h.kR (by decide))
 have hi:=h.inn.grown hg fun k hk e=>ap k hk e
 exact ⟨k7,k8,k7.set 3 v,k8.other _ _ h.ne8,kR.other _ _ h.neR,(h.ed.grown hg h.out h.ho).setB k7 (by decide) (by decide) 3 v,(h.ed'.grown hg h.out h.ho).setB k7 (by decide) (by decide) 3 v,hi.setB k7 (by decide) 3 v,hr.setB k7 (by decide) 3 v,
  (h.bel.grown hg h.bel.size (fun j hj=>Nat.le_trans h.lo (World.ownsRow.lt h.out j hj).1)).setCell h.lo7 _⟩
theorem EdsO.ne {w:World} {B b:Nat} {v:Value} {L:List EdI} {t:TypeId} {cs:Array Value} (h:EdsO w B v L) (kb:Bk w b t cs) (he:189 ≠ t):v.ownBlock ≠ some b:=by
 obtain ⟨xs,rfl,h1,h2⟩:=h
 exact row_blk_ne h1 kb he
theorem Rw.edGrown {w w':World} {B D:Nat} {u v:Value} {l:List Int} {L:List EdI} (hu:Rw w B u l) (h:EdsO w D v L) (hg:w.grownBy w' v.ownBlock):Rw w' B u l:=by
 obtain ⟨xs,rfl,h1,h2⟩:=h
 exact hu.grown hg fun k hk e=>owns_ne hu h1 (by decide) k hk e
theorem EdsO.lo {w:World} {D:Nat} {v:Value} {L:List EdI} (h:EdsO w D v L):∀ j,v.ownBlock=some j → D≤j:=by
 obtain ⟨xs,rfl,h1,h2⟩:=h
 exact fun j hj=>(World.ownsRow.lt h1 j hj).1
structure BsFin (w0 w:World) (B:Nat) (e i o:Value) (E:List EdI) (I O:List Int):Prop where
 ed:EdsO w B e E
 inn:Rw w B i I
 out:Rw w B o O
 bel:Below w0.heap.size w0 w
theorem hgBeside_any (A B:Nat) (E E':List EdI) (I I' O O':List Int) (ve vi vo ve' vi' vo':Value) (w:World) (hR:GrR w ve vi vo ⟨A,E,I,O⟩) (hR':GrR w ve' vi' vo' ⟨B,E',I',O'⟩) (hA:GrW ⟨A,E,I,O⟩ A) (hB':GrW ⟨B,E',I',O'⟩ B) :
  Calls Tryz.prog 291 #[.agg #[.int .i64 A,ve,vi,vo],.agg #[.int .i64 B,ve',vi',vo']] w (GrMk (bsI A B E E' I I' O O') w):=by
 obtain ⟨ae,ce,rfl⟩:=hR.ed.slice
 obtain ⟨ai,ci,rfl⟩:=hR.inn.slice
 obtain ⟨ao,co,rfl⟩:=hR.out.slice
 obtain ⟨ae',ce',rfl⟩:=hR'.ed.slice
 obtain ⟨ai',ci',rfl⟩:=hR'.inn.slice
 obtain ⟨ao',co',rfl⟩:=hR'.out.slice
 obtain ⟨i0,hi,hz0,hz1,hz2⟩:=info_parts infoInt
 dsimp only at hR hR' ⊢
 have hA2:=hA.le
 have hB2:=hB'.le
 have hA1:=alloc_below w (.cells #[.int .i64 A,.slice ae E.length ce,.slice ai I.length ci,.slice ao O.length co] 53)
 have hA2:=alloc_below (w.alloc (.cells #[.int .i64 A,.slice ae E.length ce,.slice ai I.length ci,.slice ao O.length co] 53)) (.cells #[.int .i64 B,.slice ae' E'.length ce',.slice ai' I'.length ci',.slice ao' O'.length co'] 53)
 have hA3:=alloc_below ((w.alloc (.cells #[.int .i64 A,.slice ae E.length ce,.slice ai I.length ci,.slice ao O.length co] 53)).alloc (.cells #[.int .i64 B,.slice ae' E'.length ce',.slice ai' I'.length ci',.slice ao' O'.length co'] 53)) (.cells #[.int .i64 0,.slice none 0 0,.slice none 0 0,.slice none 0 0] 53)
 have hB:=hA1.trans ((hA2.mono hA1.size).trans (hA3.mono (by simp;omega)))
 have kA:=((Bk.new w 53 #[.int .i64 A,.slice ae E.length ce,.slice ai I.length ci,.slice ao O.length co]).keep hA2).keep hA3
 have kB:=(Bk.new (w.alloc (.cells #[.int .i64 A,.slice ae E.length ce,.slice ai I.length ci,.slice ao O.length co] 53)) 53 #[.int .i64 B,.slice ae' E'.length ce',.slice ai' I'.length ci',.slice ao' O'.length co']).keep hA3
 have kR:=Bk.new ((w.alloc (.cells #[.int .i64 A,.slice ae E.length ce,.slice ai I.length ci,.slice ao O.length co] 53)).alloc (.cells #[.int .i64 B,.slice ae' E'.length ce',.slice ai' I'.length ci',.slice ao' O'.length co'] 53)) 53 #[.int .i64 0,.slice none 0 0,.slice none 0 0,.slice none 0 0]
 simp only [World.size_alloc] at kR kB
 clear hA1 hA2 hA3
 obtain ⟨u0,hu0⟩:∃ u,u=(((w.alloc (.cells #[.int .i64 A,.slice ae E.length ce,.slice ai I.length ci,.slice ao O.length co] 53)).alloc (.cells #[.int .i64 B,.slice ae' E'.length ce',.slice ai' I'.length ci',.slice ao' O'.length co'] 53)).alloc (.cells #[.int .i64 0,.slice none 0 0,.slice none 0 0,.slice none 0 0] 53)):=⟨_,rfl⟩
 rw [← hu0] at hB kA kB kR
 have HWA:=Lib.hid hA
 have HWB:=Lib.hid hB'
 clear hA hB'
 go_enter Tryz.func291,Tryz.ntmps291
 go_wp2_with (at_make;refine wpList_make_full _ rfl _ _ _ rfl (w.heap.size+3) 3 i0 _ 1 Tryz.underlying40 hi hz0 hz1 _ _ _ _ B rfl rfl rfl rfl (by rw [hz2];omega) (by unfold maxLen;omega) (by simp) ?_;intro w1 hown hgr)
 rw [← hu0] at hgr
 have hsz:u0.heap.size=w.heap.size+3:=by rw [hu0];simp
 clear hu0
 have hz:=made_flat (f:=iCell) (0:Int) B (sz:=1) (by omega) rfl
 have hb1:Below u0.heap.size u0 w1:=(Below.refl _ _).grown hgr (Nat.le_refl _) (by simp)
 have hr1:Rw w1 u0.heap.size (.slice (some ⟨u0.heap.size,0,none⟩) B B) (List.replicate B 0):=by
  unfold Rw
  rw [List.length_replicate,← hz,hsz]
  simp only [World.size_alloc] at hown
  exact hown
 rw [hsz] at hr1
 have HR1:=Lib.hid hr1
 have HSZ:=Lib.hid hsz
 clear hz hown hgr hi hz0 hz1 hz2 hr1 hsz
 go_loopw [14] (fun i wr=>∃ k:Nat,k≤B∧i=.int .i64 k∧Rw wr (w.heap.size+3) (.slice (some ⟨w.heap.size+3,0,none⟩) B B) ((fromL A B).take k ++ (List.replicate B (0:Int)).drop k)∧Below u0.heap.size u0 wr) (fun i _=>B - (intOf i).toNat)
 case atStart=>exact ⟨0,Nat.zero_le _,rfl,by simpa using HR1.out,hb1⟩
 case round =>
  clear HR1 hb1
  obtain ⟨k,hk,rfl,hrow,hbel⟩:=hrel
  by_cases hlt:k<B
  ·obtain ⟨⟨d0,f0⟩,hset⟩:=hrow.fill (fromL_len A B) (by simp) hlt
   rw [fromL_get,Int.natCast_add] at hset
   rw [List.getElem_replicate] at d0
   have hw:IntKind.i64.wrap ((k:Int)+A)=(k:Int)+A:=IntWalk.i64_in _ (by omega)
   have HS:=Lib.hid hset
   have hge:u0.heap.size≤w.heap.size+3:=by have:=HSZ.out;omega
   have HGE:=Lib.hid hge
   have iA0:=(kA.keep hbel).cell.1 0
   have zA:=(kA.keep hbel).lt
   simp at iA0
   clear hrow hset hge kB kR
   go_wp2
   go_roundw
   case rel=>exact ⟨k+1,by omega,by go_num,HS.out,hbel.setCell HGE.out _⟩
   case measure=>simp [intOf];omega
  ·obtain rfl:k=B:=by omega
   have HF:=Lib.hid (hrow.full (fromL_len _ _) (by simp))
   clear hrow
   have hBw:=hB.trans (hbel.mono hB.size)
   replace kA:=kA.keep hbel
   replace kB:=kB.keep hbel
   replace kR:=kR.keep hbel
   have HLOW:=Lib.hid kR.lt
   obtain ⟨iA,fA,zA⟩:=kA.cell
   have HC:=Lib.hid (hgOwn_any A E I O _ _ _ wr (hR.keep hBw) HWA.out.le HWA.out.ok HWA.out.up)
   go_wp2_with fail
   refine HC.out.mono ?_
   intro q w2 hq
   obtain ⟨x1,y1,x2,y2,x3,y3,rfl,hg2,hb2⟩:=hq.q
   clear hq HC
   dsimp only at hg2 ⊢
   have hBw2:=hBw.trans (hb2.mono hBw.size)
   replace kA:=kA.keep hb2
   replace kB:=kB.keep hb2
   replace kR:=kR.keep hb2
   have HG:=Lib.hid hg2
   have HF2:=Lib.hid (HF.out.keep hb2)
   clear iA fA zA hg2 HF
   obtain ⟨iB,fB,zB⟩:=kB.cell
   go_wp2_with fail
   have kA0:=(kB.alloc (.cells #[.int .i64 A,.slice x1 E.length y1,.slice x2 I.length y2,.slice x3 O.length y3] 53))
   clear iB fB zB
   have kR0:=(kR.alloc (.cells #[.int .i64 A,.slice x1 E.length y1,.slice x2 I.length y2,.slice x3 O.length y3] 53))
   have k7:=Bk.new w2 53 #[.int .i64 A,.slice x1 E.length y1,.slice x2 I.length y2,.slice x3 O.length y3]
   have hbA:=alloc_below w2 (.cells #[.int .i64 A,.slice x1 E.length y1,.slice x2 I.length y2,.slice x3 O.length y3] 53)
   have HF3:=Lib.hid (HF2.out.keep hbA)
   have HG3:=Lib.hid (HG.out.keep hbA)
   clear HF2 HG
   have hBw3:=hBw2.trans (hbA.mono hBw2.size)
   generalize (w2.alloc (.cells #[.int .i64 A,.slice x1 E.length y1,.slice x2 I.length y2,.slice x3 O.length y3] 53))=w3 at *
   have HC:=Lib.hid (hgMap_any ⟨k,E',I',O'⟩ _ _ _ _ (fromL A k) k w3 (hR'.keep hBw3) HWB.out.ok HF3.out.at (by rw [fromL_len];exact HWB.out.le) (HWB.out.from A))
   refine HC.out.mono ?_
   intro q w4 hq
   obtain ⟨z1,d1,z2,d2,z3,d3,rfl,hg4,hb4⟩:=hq.q
   clear hq HC
   dsimp only [mvI] at hg4 ⊢
   generalize hE2:List.map (mvE (fromL A k)) E'=E2 at *
   generalize hI2:pickL (fromL A k) I'=I2 at *
   generalize hO2:pickL (fromL A k) O'=O2 at *
   have HEQ:=Lib.hid (And.intro hE2 (And.intro hI2 hO2))
   have hlE:E2.length=E'.length:=by rw [← hE2,List.length_map]
   have hlI:I2.length=I'.length:=by rw [← hI2,pickL_len]
   have hlO:O2.length=O'.length:=by rw [← hO2,pickL_len]
   have HL:=Lib.hid (And.intro hlE (And.intro hlI hlO))
   clear hE2 hI2 hO2 hlE hlI hlO HF3
   have hBw4:=hBw3.trans (hb4.mono hBw3.size)
   obtain ⟨C,D,q1,q2,q3,q4,q5,q6,q7,q8⟩:=HG3.out
   clear HG3
   have kB4:=kA0.keep hb4
   have kR4:=kR0.keep hb4
   have k74:=k7.keep hb4
   have zz2:=k7.lt
   have zzR:=kR.lt
   have zb2:=hb2.size
   have h4z:=hb4.size
   have zw:=hBw.size
   have hd8:=alloc_below (w4.setCell ⟨w2.heap.size,0,none⟩ (.int .i64 ((A:Int)+k))) (.cells #[.int .i64 k,.slice z1 E2.length d1,.slice z2 I2.length d2,.slice z3 O2.length d3] 53)
   have k8:=Bk.new (w4.setCell ⟨w2.heap.size,0,none⟩ (.int .i64 ((A:Int)+k))) 53 #[.int .i64 k,.slice z1 E2.length d1,.slice z2 I2.length d2,.slice z3 O2.length d3]
   rw [World.size_setCell] at k8
   have hgo:=hg4.o.mono q8
   have hHB:BsSt w ((w4.setCell ⟨w2.heap.size,0,none⟩ (.int .i64 ((A:Int)+k))).alloc (.cells #[.int .i64 k,.slice z1 E2.length d1,.slice z2 I2.length d2,.slice z3 O2.length d3] 53)) wr.heap.size D w2.heap.size w4.heap.size (w.heap.size+1+1) ((A:Int)+k) k (.slice x1 E.length y1) (.slice x2 I.length y2) (.slice x3 O.length y3) (.slice z1 E2.length d1) (.slice z2 I2.length d2) (.slice z3 O2.length d3) E I O E2 I2 O2 :=
    ⟨(k74.set 0 _).keep hd8,k8,(kR4.other _ _ (by show w.heap.size+1+1 ≠ w2.heap.size;omega)).keep hd8,((q3.keep hb4).setB k74 (by decide) (by decide) 0 _).keep hd8,((q4.keep hb4).setB k74 (by decide) 0 _).keep hd8,(((q5.mono q1).keep hb4).setB k74 (by decide) 0 _).keep hd8,(hgo.ed.setB k74 (by decide) (by decide) 0 _).keep hd8,(hgo.inn.setB k74 (by decide) 0 _).keep hd8,(hgo.out.setB k74 (by decide) 0 _).keep hd8,(hBw4.setCell (by show w.heap.size≤w2.heap.size;omega) _).trans (hd8.mono (by simp;exact hBw4.size)),zw,by omega,by omega,by omega,q7⟩
   have hap:Apart (.slice x2 I.length y2) (.slice x3 O.length y3):=fun j hj hj'=>by
    have:=q6 j hj
    have:=(World.ownsRow.lt q5 j hj').1
    omega
   have HAP:=Lib.hid hap
   have HI:=Lib.hid (show ∀ j,(Value.slice x2 I.length y2).ownBlock=some j → j<D from fun j hj=>Nat.lt_of_lt_of_le (q6 j hj) q2)
   have HB1:=Lib.hid hHB
   have HZ:=Lib.hid (show wr.heap.size≤w4.heap.size∧D≤w4.heap.size∧w.heap.size≤wr.heap.size∧wr.heap.size≤D∧w.heap.size+1+1<w2.heap.size from ⟨by omega,by omega,zw,by omega,zzR⟩)
   have HLn:=Lib.hid (show I.length≤1000∧O.length≤1000∧I2.length≤1000∧O2.length≤1000∧E.length≤10000∧E2.length≤10000 from ⟨HWA.out.ok.inn,HWA.out.ok.out,by rw [HL.out.2.1];exact HWB.out.ok.inn,by rw [HL.out.2.2];exact HWB.out.ok.out,HWA.out.ok.ed,by rw [HL.out.1];exact HWB.out.ok.ed⟩)
   have hw:IntKind.i64.wrap ((A:Int)+k)=(A:Int)+k:=IntWalk.i64_in _ (by omega)
   obtain ⟨i7,f7,z7⟩:=k74.cell
   obtain ⟨iB,fB,zB⟩:=kB4.cell
   clear hHB hap q1 q2 q3 q4 q5 q6 q7 q8 kR4 hd8 hgo k8 zz2 zzR zb2 h4z zw hg4 hb4 k7 kR kA kB kA0 kR0 hbA hb2 hBw3 hBw2 hBw hbel HL HWA HWB
   go_wp2_with (at_builtin;refine Hid.out ?_)
   refine Lib.hid ?_
   refine ints_append HB1.out.inn'.at rfl (.tmp 39) (.tmp 41) rfl wr.heap.size (.slice x2 I.length y2) I rfl rfl HB1.out.inn (by simp;have:=HZ.out;omega) (by have:=HLn.out;omega) ?_
   intro v1 w5 r1 r2 r3
   obtain ⟨L1,hL1⟩:∃ L,I ++ I2=L:=⟨_,rfl⟩
   rw [hL1] at r1
   obtain ⟨p1,p2,p3,p4⟩:=HB1.out.inn1 HI.out HAP.out r1 r2 r3
   obtain ⟨a5,c5,rfl⟩:=r1.slice
   have zs5:=r2.size
   have HZ2:=Lib.hid (show wr.heap.size≤w5.heap.size∧D≤w5.heap.size by simp at zs5;have:=HZ.out;omega)
   have HL1:=Lib.hid hL1
   clear i7 f7 z7 zs5 hL1
   obtain ⟨i7,f7,z7⟩:=p1.cell
   obtain ⟨i8,f8,z8⟩:=p2.cell
   have HB2:=Lib.hid p4
   have HAP2:=Lib.hid p3
   clear HB1 p1 p2 p3 p4 HAP HI r1 r2 r3
   go_wp2_with (at_builtin;refine Hid.out ?_)
   refine Lib.hid ?_
   refine ints_append HB2.out.out'.at rfl (.tmp 45) (.tmp 47) rfl wr.heap.size (.slice x3 O.length y3) O rfl rfl HB2.out.out (by simp;exact HZ2.out.1) (by have:=HLn.out;omega) ?_
   intro v2 w6 r1 r2 r3
   obtain ⟨L2,hL2⟩:∃ L,O ++ O2=L:=⟨_,rfl⟩
   rw [hL2] at r1
   obtain ⟨p1,p2,p3⟩:=HB2.out.out1 HAP2.out r1 r2
   obtain ⟨a6,c6,rfl⟩:=r1.slice
   have zs6:=r2.size
   have HZ3:=Lib.hid (show wr.heap.size≤w6.heap.size∧D≤w6.heap.size by simp at zs6;have:=HZ2.out;omega)
   have HL2:=Lib.hid hL2
   clear i7 f7 z7 i8 f8 z8 zs6 hL2
   obtain ⟨i7,f7,z7⟩:=p1.cell
   obtain ⟨i8,f8,z8⟩:=p2.cell
   have HB3:=Lib.hid p3
   clear HB2 p1 p2 p3 HAP2 r1 r2 r3
   go_wp2_with (at_builtin;refine Hid.out ?_)
   refine Lib.hid ?_
   obtain ⟨k71,k81,kR1,e1,e2,n1,n2,b1⟩:=HB3.out
   clear i7 f7 z7 i8 f8 z8 HB3
   refine eds_append e1 e2 rfl (.tmp 51) (.tmp 53) rfl rfl rfl (Nat.le_refl _) (by simp;exact HZ3.out.2) (by have:=HLn.out;omega) ?_
   intro v3 w7 r1 r2 r3
   obtain ⟨L3,hL3⟩:∃ L,E ++ E2=L:=⟨_,rfl⟩
   rw [hL3] at r1
   have k72:=k71.grown r2 (e1.ne k71 (by decide))
   have kR2:=kR1.grown r2 (e1.ne kR1 (by decide))
   have n3:=n1.edGrown e1 r2
   have n4:=n2.edGrown e1 r2
   obtain ⟨a7,c7,rfl⟩:=r1.shape
   have b2:=b1.grown r2 b1.size (fun j hj=>Nat.le_trans (Nat.le_trans HZ.out.2.2.1 HZ.out.2.2.2.1) (e1.lo j hj))
   have HF:=Lib.hid (show BsFin w w7 wr.heap.size _ _ _ L3 L1 L2 from ⟨r1.mono HZ.out.2.2.2.1,n3,n4,b2⟩)
   have HL3:=Lib.hid hL3
   have k73:=k72.set 1 (.slice a7 L3.length c7)
   have kR3:=kR2.other ⟨w2.heap.size,1,none⟩ (.slice a7 L3.length c7) (by have:=HZ.out;show w.heap.size+1+1 ≠ w2.heap.size;omega)
   obtain ⟨i7,f7,z7⟩:=k72.cell
   obtain ⟨iR,fR,zR⟩:=kR2.cell
   clear k71 k81 kR1 e1 e2 n1 n2 b1 r1 r2 r3 n3 n4 b2 hL3 k73 kR3
   have hlt7:=HZ.out.2.2.2.2
   have hne7:¬ w2.heap.size=w.heap.size+1+1:=by omega
   have hne8:¬ w.heap.size+1+1=w2.heap.size:=by omega
   go_wp2
   refine bodyPost_ret (v:=.agg #[.int .i64 ((A:Int)+k),.slice a7 L3.length c7,.slice a5 L1.length c5,.slice a6 L2.length c6]) (by simp [results,Tryz.results291,go_sem,iR,hne8]) rfl ?_
   have hlow:=HLOW.out
   obtain ⟨e1,e2,e3⟩:=HEQ.out
   refine ⟨_,_,_,rfl,?_,?_⟩
   ·unfold bsI
    rw [e1,e2,e3,HL1.out,HL2.out,HL3.out]
    have g0:GrO w7 wr.heap.size (.slice a7 L3.length c7) (.slice a5 L1.length c5) (.slice a6 L2.length c6) ⟨((A+k:Nat):Int),L3,L1,L2⟩:=⟨HF.out.ed,HF.out.inn,HF.out.out⟩
    exact (((((g0.setB k72 (by decide) (by decide) 1 _).low (a:=⟨w.heap.size+1+1,0,none⟩) hlow _).low (a:=⟨w.heap.size+1+1,1,none⟩) hlow _).low (a:=⟨w.heap.size+1+1,2,none⟩) hlow _).low (a:=⟨w.heap.size+1+1,3,none⟩) hlow _).mono HZ.out.2.2.1
   ·exact ((((HF.out.bel.setCell (by show w.heap.size≤w2.heap.size;omega) _).setCell (by show w.heap.size≤w.heap.size+1+1;omega) _).setCell (by show w.heap.size≤w.heap.size+1+1;omega) _).setCell (by show w.heap.size≤w.heap.size+1+1;omega) _).setCell (by show w.heap.size≤w.heap.size+1+1;omega) _
theorem hgPar_any (A B:Nat) (E E':List EdI) (I I' O O':List Int) (ve vi vo ve' vi' vo':Value) (w:World) (hR:GrR w ve vi vo ⟨A,E,I,O⟩) (hR':GrR w ve' vi' vo' ⟨B,E',I',O'⟩) (hA:GrW ⟨A,E,I,O⟩ A) (hB':GrW ⟨B,E',I',O'⟩ B) :
  Calls Tryz.prog 237 #[.agg #[.int .i64 A,ve,vi,vo],.agg #[.int .i64 B,ve',vi',vo']] w (GrMk (bsI A B E E' I I' O O') w):=by
 obtain ⟨ae,ce,rfl⟩:=hR.ed.slice
 obtain ⟨ai,ci,rfl⟩:=hR.inn.slice
 obtain ⟨ao,co,rfl⟩:=hR.out.slice
 obtain ⟨ae',ce',rfl⟩:=hR'.ed.slice
 obtain ⟨ai',ci',rfl⟩:=hR'.inn.slice
 obtain ⟨ao',co',rfl⟩:=hR'.out.slice
 dsimp only at hR hR' ⊢
 have hA1:=alloc_below w (.cells #[.int .i64 A,.slice ae E.length ce,.slice ai I.length ci,.slice ao O.length co] 53)
 have hA2:=alloc_below (w.alloc (.cells #[.int .i64 A,.slice ae E.length ce,.slice ai I.length ci,.slice ao O.length co] 53)) (.cells #[.int .i64 B,.slice ae' E'.length ce',.slice ai' I'.length ci',.slice ao' O'.length co'] 53)
 have hA3:=alloc_below ((w.alloc (.cells #[.int .i64 A,.slice ae E.length ce,.slice ai I.length ci,.slice ao O.length co] 53)).alloc (.cells #[.int .i64 B,.slice ae' E'.length ce',.slice ai' I'.length ci',.slice ao' O'.length co'] 53)) (.cells #[.int .i64 0,.slice none 0 0,.slice none 0 0,.slice none 0 0] 53)
 have hB:=hA1.trans ((hA2.mono hA1.size).trans (hA3.mono (by simp;omega)))
 have kR:=Bk.new ((w.alloc (.cells #[.int .i64 A,.slice ae E.length ce,.slice ai I.length ci,.slice ao O.length co] 53)).alloc (.cells #[.int .i64 B,.slice ae' E'.length ce',.slice ai' I'.length ci',.slice ao' O'.length co'] 53)) 53 #[.int .i64 0,.slice none 0 0,.slice none 0 0,.slice none 0 0]
 simp only [World.size_alloc] at kR
 clear hA1 hA2 hA3
 go_enter Tryz.func237,Tryz.ntmps237
 go_wp2_with fail
 generalize (((w.alloc (.cells #[.int .i64 A,.slice ae E.length ce,.slice ai I.length ci,.slice ao O.length co] 53)).alloc (.cells #[.int .i64 B,.slice ae' E'.length ce',.slice ai' I'.length ci',.slice ao' O'.length co'] 53)).alloc (.cells #[.int .i64 0,.slice none 0 0,.slice none 0 0,.slice none 0 0] 53))=u0 at *
 have hlow:=kR.lt
 refine (hgBeside_any A B E E' I I' O O' _ _ _ _ _ _ u0 (hR.keep hB) (hR'.keep hB) hA hB').mono ?_
 intro q w2 hq
 obtain ⟨x1,y1,x2,y2,x3,y3,rfl,hg2,hb2⟩:=hq.q
 clear hq
 have hB2:=hB.trans (hb2.mono hB.size)
 have HG:=Lib.hid hg2
 have HW:=Lib.hid (show (bsI A B E E' I I' O O').wires=_ from rfl)
 clear hg2
 replace kR:=kR.keep hb2
 obtain ⟨iR,fR,zR⟩:=kR.cell
 generalize bsI A B E E' I I' O O'=G at *
 obtain ⟨gw,ge,gi,gq⟩:=G
 dsimp only
 go_wp2
 refine bodyPost_ret (v:=.agg #[.int .i64 gw,.slice x1 ge.length y1,.slice x2 gi.length y2,.slice x3 gq.length y3]) (by simp [results,Tryz.results237,go_sem,iR]) rfl ⟨_,_,_,rfl,?_,?_⟩
 ·exact (((((HG.out).low (a:=⟨w.heap.size+1+1,0,none⟩) hlow _).low (a:=⟨w.heap.size+1+1,1,none⟩) hlow _).low (a:=⟨w.heap.size+1+1,2,none⟩) hlow _).low (a:=⟨w.heap.size+1+1,3,none⟩) hlow _).mono hB.size
 ·exact (((hB2.setCell (by show w.heap.size≤w.heap.size+1+1;omega) _).setCell (by show w.heap.size≤w.heap.size+1+1;omega) _).setCell (by show w.heap.size≤w.heap.size+1+1;omega) _).setCell (by show w.heap.size≤w.heap.size+1+1;omega) _
end Go.Proofs.YtbljmfcifljkaaaGreatDoor
/-
  Wires that are made one: the program's trees of classes and the reference's lists of least members agree. Plain Lean. Own work.
-/
namespace Go.Proofs.YtbljmfcifljkaaaGreatDoor
inductive RootOf (c:List Nat):Nat → Nat → Prop
 | here {w:Nat}:c[w]?=some w → RootOf c w w
 | up {w p r:Nat}:c[w]?=some p → p<w → RootOf c p r → RootOf c w r
theorem RootOf.le {c:List Nat} {w r:Nat} (h:RootOf c w r):r≤w:=by
 induction h with
 | here _=>exact Nat.le_refl _
 | up _ h1 _ ih=>omega
theorem RootOf.lt {c:List Nat} {w r:Nat} (h:RootOf c w r):w<c.length:=by
 cases h with
 | here h=>exact (List.getElem?_eq_some_iff.1 h).1
 | up h _ _=>exact (List.getElem?_eq_some_iff.1 h).1
theorem RootOf.fix {c:List Nat} {w r:Nat} (h:RootOf c w r):c[r]?=some r:=by
 induction h with
 | here h=>exact h
 | up _ _ _ ih=>exact ih
theorem RootOf.one {c:List Nat} {w r s:Nat} (h:RootOf c w r) (k:RootOf c w s):r=s:=by
 induction h with
 | here h =>
  cases k with
  | here _=>rfl
  | up h1 h2 _=>rw [h] at h1;injection h1 with h1;omega
 | up h1 h2 _ ih =>
  cases k with
  | here h=>rw [h] at h1;injection h1 with h1;omega
  | up h3 h4 h5=>rw [h1] at h3;injection h3 with h3;subst h3;exact ih h5
structure ClsIs (c cl:List Nat):Prop where
 len:c.length=cl.length
 rt:∀ w,w<c.length → RootOf c w (cl.getD w 0)
theorem ClsIs.root {c cl:List Nat} (h:ClsIs c cl) {w:Nat} (hw:w<c.length) {r:Nat} (hr:RootOf c w r):cl.getD w 0=r:=(h.rt w hw).one hr
def upToL (n:Nat):List Nat:=List.range n
theorem cls_start (n:Nat):ClsIs (upToL n) (upToL n):=by
 refine ⟨rfl,fun w hw=>?_⟩
 have hw':w<n:=by simpa [upToL] using hw
 have:(upToL n).getD w 0=w:=by simp [upToL,List.getD_eq_getElem?_getD,hw']
 rw [this]
 exact .here (by simp [upToL,hw'])
def joinL (cl:List Nat) (a b:Nat):List Nat:=cl.map fun x=>if x=Nat.max (cl.getD a 0) (cl.getD b 0) then Nat.min (cl.getD a 0) (cl.getD b 0) else x
theorem joinL_len (cl:List Nat) (a b:Nat):(joinL cl a b).length=cl.length:=by simp [joinL]
theorem joinL_get (cl:List Nat) (a b w:Nat) (hw:w<cl.length):(joinL cl a b).getD w 0=if cl.getD w 0=Nat.max (cl.getD a 0) (cl.getD b 0) then Nat.min (cl.getD a 0) (cl.getD b 0) else cl.getD w 0:=by
 simp [joinL,List.getD_eq_getElem?_getD,hw]
theorem cls_join {c cl:List Nat} (h:ClsIs c cl) {a b:Nat} (ha:a<c.length) (hb:b<c.length) :
  ClsIs (c.set (Nat.max (cl.getD a 0) (cl.getD b 0)) (Nat.min (cl.getD a 0) (cl.getD b 0))) (joinL cl a b):=by
 obtain ⟨x,hx⟩:∃ x,cl.getD a 0=x:=⟨_,rfl⟩
 obtain ⟨y,hy⟩:∃ y,cl.getD b 0=y:=⟨_,rfl⟩
 have rx:=(h.rt a ha).fix
 have ry:=(h.rt b hb).fix
 rw [hx] at rx
 rw [hy] at ry
 have hml:Nat.max x y<c.length:=by
  have h1:=(List.getElem?_eq_some_iff.1 rx).1
  have h2:=(List.getElem?_eq_some_iff.1 ry).1
  exact Nat.max_lt.2 ⟨h1,h2⟩
 have hnm:c[Nat.min x y]?=some (Nat.min x y):=by
  rcases Nat.le_total x y with hh|hh
  ·rw [show Nat.min x y=x from Nat.min_eq_left hh];exact rx
  ·rw [show Nat.min x y=y from Nat.min_eq_right hh];exact ry
 have hmm:c[Nat.max x y]?=some (Nat.max x y):=by
  rcases Nat.le_total x y with hh|hh
  ·rw [show Nat.max x y=y from Nat.max_eq_right hh];exact ry
  ·rw [show Nat.max x y=x from Nat.max_eq_left hh];exact rx
 have hle:Nat.min x y≤Nat.max x y:=by
  rcases Nat.le_total x y with hh|hh
  ·rw [show Nat.min x y=x from Nat.min_eq_left hh,show Nat.max x y=y from Nat.max_eq_right hh];exact hh
  ·rw [show Nat.min x y=y from Nat.min_eq_right hh,show Nat.max x y=x from Nat.max_eq_left hh];exact hh
 rw [hx,hy]
 obtain ⟨m,hm⟩:∃ m,Nat.max x y=m:=⟨_,rfl⟩
 obtain ⟨n,hn⟩:∃ n,Nat.min x y=n:=⟨_,rfl⟩
 rw [hm] at hml hmm hle
 rw [hn] at hnm hle
 rw [hm,hn]
 refine ⟨by simp [joinL_len,h.len],fun w hw=>?_⟩
 have hwc:w<c.length:=by simpa using hw
 rw [joinL_get cl a b w (by rw [← h.len];exact hwc),hx,hy,hm,hn]
 have key:∀ w r,RootOf c w r → RootOf (c.set m n) w (if r=m then n else r):=by
  intro w r hr
  induction hr with
  | @here w hw0 =>
   by_cases e:w=m
   ·subst e
    rw [if_pos rfl]
    rcases Nat.lt_or_ge n w with hlt|hge
    ·refine .up (p:=n) (by rw [List.getElem?_set_self hml]) hlt (.here ?_)
     rw [List.getElem?_set_ne (by omega)];exact hnm
    ·obtain rfl:n=w:=by omega
     exact .here (by rw [List.getElem?_set_self hml])
   ·rw [if_neg e]
    exact .here (by rw [List.getElem?_set_ne (by omega)];exact hw0)
  | @up w p r h1 h2 h3 ih =>
   by_cases e:w=m
   ·subst e
    rw [hmm] at h1;injection h1 with h1;omega
   ·exact .up (by rw [List.getElem?_set_ne (by omega)];exact h1) h2 ih
 exact key w _ (h.rt w hwc)
def joinAll (cl:List Nat):List (Nat × Nat) → List Nat
 | []=>cl
 | p :: r=>joinAll (joinL cl p.1 p.2) r
theorem joinAll_len (cl:List Nat) (ps:List (Nat × Nat)):(joinAll cl ps).length=cl.length:=by
 induction ps generalizing cl with
 | nil=>rfl
 | cons p r ih=>rw [joinAll,ih,joinL_len]
theorem joinAll_snoc (cl:List Nat) (ps:List (Nat × Nat)) (p:Nat × Nat):joinAll cl (ps ++ [p])=joinL (joinAll cl ps) p.1 p.2:=by
 induction ps generalizing cl with
 | nil=>rfl
 | cons q r ih=>rw [List.cons_append,joinAll,joinAll,ih]
def rankL (cl:List Nat) (us:Nat → Bool) (r:Nat):Nat:=((List.range r).filter fun x=>cl.getD x 0 == x && us x).length
theorem rankL_succ (cl:List Nat) (us:Nat → Bool) (r:Nat):rankL cl us (r+1)=rankL cl us r+if cl.getD r 0=r∧us r=true then 1 else 0:=by
 unfold rankL
 rw [List.range_succ,List.filter_append]
 rw [List.length_append,List.filter_cons,List.filter_nil]
 by_cases h:cl.getD r 0=r∧us r=true
 ·have:(cl.getD r 0 == r && us r)=true:=by rw [h.1,h.2];simp
  rw [if_pos h,if_pos this];rfl
 ·have:¬ (cl.getD r 0 == r && us r)=true:=by
   intro hh
   rw [Bool.and_eq_true,beq_iff_eq] at hh
   exact h hh
  rw [if_neg h,if_neg this];rfl
def numL (cl:List Nat) (us:Nat → Bool) (w:Nat):Int:=if us (cl.getD w 0)=true then (rankL cl us (cl.getD w 0):Int) else -1
theorem cls_all {c cl:List Nat} (h:ClsIs c cl):∀ (ps:List (Nat × Nat)),(∀ p ∈ ps,p.1<c.length∧p.2<c.length) → ∃ c',ClsIs c' (joinAll cl ps)∧c'.length=c.length:=by
 intro ps
 induction ps generalizing c cl with
 | nil=>intro _;exact ⟨c,h,rfl⟩
 | cons p r ih =>
  intro hp
  have hp0:=hp p (by simp)
  have h1:=cls_join h hp0.1 hp0.2
  obtain ⟨c',h2,h3⟩:=ih h1 (fun q hq=>by rw [List.length_set];exact hp q (by simp [hq]))
  exact ⟨c',h2,by rw [h3,List.length_set]⟩
structure ClsL (cl:List Nat):Prop where
 le:∀ w,w<cl.length → cl.getD w 0≤w
 idem:∀ w,w<cl.length → cl.getD (cl.getD w 0) 0=cl.getD w 0
theorem ClsIs.clsL {c cl:List Nat} (h:ClsIs c cl):ClsL cl:=by
 refine ⟨fun w hw=>(h.rt w (by rw [h.len];exact hw)).le,fun w hw=>?_⟩
 have hr:=h.rt w (by rw [h.len];exact hw)
 have hf:=hr.fix
 exact h.root (List.getElem?_eq_some_iff.1 hf).1 (.here hf)
theorem clsL_all (n:Nat) (ps:List (Nat × Nat)) (hp:∀ p ∈ ps,p.1<n∧p.2<n):ClsL (joinAll (upToL n) ps)∧(joinAll (upToL n) ps).length=n:=by
 obtain ⟨c,h1,h2⟩:=cls_all (cls_start n) ps (fun p hp'=>by simpa [upToL] using hp p hp')
 exact ⟨h1.clsL,by rw [joinAll_len];simp [upToL]⟩
section
variable {cl:List Nat} {us:Nat → Bool} {w:Nat}
theorem num_out (h:us (cl.getD w 0)=false):numL cl us w=-1:=by unfold numL;rw [h];rfl
theorem num_low (hc:ClsL cl) (hw:w<cl.length) (h:us (cl.getD w 0)=true):numL cl us w=numL cl us (cl.getD w 0):=by
 unfold numL
 rw [hc.idem w hw]
theorem num_own (h:us (cl.getD w 0)=true) (hw:cl.getD w 0=w):numL cl us w=(rankL cl us w:Int):=by
 unfold numL
 rw [if_pos h,hw]
theorem rank_same (h:¬ (cl.getD w 0=w∧us w=true)):rankL cl us (w+1)=rankL cl us w:=by rw [rankL_succ,if_neg h];rfl
theorem rank_next (h:cl.getD w 0=w) (h2:us w=true):rankL cl us (w+1)=rankL cl us w+1:=by rw [rankL_succ,if_pos ⟨h,h2⟩]
theorem rank_le:rankL cl us w≤w:=by
 induction w with
 | zero=>simp [rankL]
 | succ w ih=>rw [rankL_succ];split <;> omega
def num1 (cl:List Nat) (us:Nat → Bool) (w:Nat):Int:=if cl.getD w 0=w∧us w=true then (rankL cl us w:Int) else 0
theorem num_second (hc:ClsL cl) (hw:w<cl.length):numL cl us w=(if us (cl.getD w 0)=true then (if cl.getD w 0<w then numL cl us (cl.getD w 0) else num1 cl us (cl.getD w 0)) else -1):=by
 have h1:=hc.le w hw
 have h2:=hc.idem w hw
 by_cases h:us (cl.getD w 0)=true
 ·rw [if_pos h]
  by_cases h3:cl.getD w 0<w
  ·rw [if_pos h3];exact num_low hc hw h
  ·rw [if_neg h3]
   have e:cl.getD w 0=w:=by omega
   unfold num1
   rw [h2,if_pos ⟨rfl,h⟩,num_own h e,e]
 ·rw [if_neg h];exact num_out (by simpa using h)
end
end Go.Proofs.YtbljmfcifljkaaaGreatDoor
/-
  Classes of wires as rows of numbers; what is used; plain facts for the walks of glue. Own work.
-/
namespace Go.Proofs.YtbljmfcifljkaaaGreatDoor
open Go.RowKit
theorem GrB.ok {g:GrI} (h:GrB g):GrOk g:=⟨by have:=h.ed;omega,fun e he=>⟨by have:=(h.eds e he).1;omega,by have:=(h.eds e he).2;omega⟩,by have:=h.inn;omega,by have:=h.out;omega⟩
def nI (l:List Nat):List Int:=l.map fun n:Nat=>(n:Int)
theorem nI_len (l:List Nat):(nI l).length=l.length:=by simp [nI]
theorem nI_get (l:List Nat) (k:Nat) (h:k<(nI l).length):(nI l)[k]=((l.getD k 0:Nat):Int):=by
 rw [nI_len] at h
 simp [nI,List.getD_eq_getElem?_getD,h]
theorem upL_nI (n:Nat):upL n=nI (upToL n):=rfl
theorem take_same {α:Type} (xs ys:List α) (k:Nat) (hx:k<xs.length) (hy:k<ys.length) (h:xs[k]=ys[k]):xs.take k ++ ys.drop k=xs.take (k+1) ++ ys.drop (k+1):=by
 rw [List.take_succ_eq_append_getElem hx,List.drop_eq_getElem_cons hy,h,List.append_assoc]
 rfl
def clsI (W:Nat) (ps:List (Nat × Nat)) (i:Nat):List Nat:=joinAll (upToL W) (ps.take i)
theorem clsI_succ (W:Nat) (ps:List (Nat × Nat)) (i:Nat) (h:i<ps.length):clsI W ps (i+1)=joinL (clsI W ps i) ps[i].1 ps[i].2:=by
 unfold clsI
 rw [List.take_succ_eq_append_getElem h,joinAll_snoc]
theorem clsI_ok (W:Nat) (ps:List (Nat × Nat)) (i:Nat) (hp:∀ p ∈ ps,p.1<W∧p.2<W):ClsL (clsI W ps i)∧(clsI W ps i).length=W :=
 clsL_all W _ fun p h=>hp p (List.mem_of_mem_take h)
def usI (g:GrI) (cl:List Nat) (r:Nat):Bool:=g.places.any fun z=>cl.getD z.toNat 0 == r
def visR (cl:List Nat) (met:Nat → Bool) (k:Nat):List Int:=((List.range k).filter met).map fun w=>((cl.getD w 0:Nat):Int)
theorem visR_succ (cl:List Nat) (met:Nat → Bool) (k:Nat):visR cl met (k+1)=visR cl met k ++ if met k then [((cl.getD k 0:Nat):Int)] else []:=by
 unfold visR
 rw [List.range_succ,List.filter_append,List.map_append,List.filter_cons,List.filter_nil]
 cases met k <;> rfl
def metW (g:GrI) (w:Nat):Bool:=g.places.contains (w:Int)
theorem met_pos (g:GrI) (w:Nat):(0:Int)<(g.origs.count (w:Int):Int)+(g.dests.count (w:Int):Int) ↔ metW g w=true:=by
 have h:=met_iff g.origs g.dests (w:Int)
 have h2:=mem_places g (w:Int)
 unfold metW
 rw [List.contains_iff_mem] at h ⊢
 rw [← h2]
 constructor
 ·intro h1
  by_cases h3:(w:Int) ∈ g.origs ++ g.dests
  ·exact h3
  ·have:=h.2 h3;omega
 ·intro h1
  have:¬ ((g.origs.count (w:Int):Int)+(g.dests.count (w:Int):Int)=0):=fun e=>h.1 e h1
  omega
theorem vis_us (g:GrI) (cl:List Nat) (W:Nat) (hin:∀ k ∈ g.places,0≤k∧k<(W:Int)) (r:Nat):(visR cl (metW g) W).contains (r:Int)=usI g cl r:=by
 rw [Bool.eq_iff_iff]
 unfold visR usI
 rw [List.contains_iff_mem,List.mem_map,List.any_eq_true]
 constructor
 ·rintro ⟨w,hw,e⟩
  have hw2:=(List.mem_filter.1 hw).2
  unfold metW at hw2
  refine ⟨(w:Int),List.contains_iff_mem.1 hw2,?_⟩
  rw [Int.toNat_natCast,beq_iff_eq]
  omega
 ·rintro ⟨z,hz,e⟩
  obtain ⟨h1,h2⟩:=hin z hz
  refine ⟨z.toNat,List.mem_filter.2 ⟨List.mem_range.2 (by omega),?_⟩,?_⟩
  ·unfold metW
   rw [Int.toNat_of_nonneg h1]
   exact List.contains_iff_mem.2 hz
  ·rw [beq_iff_eq] at e;omega
def num1T (cl:List Nat) (us:Nat → Bool) (W:Nat):List Int:=(List.range W).map (num1 cl us)
def numT' (cl:List Nat) (us:Nat → Bool) (W:Nat):List Int:=(List.range W).map (numL cl us)
theorem num1T_len (cl:List Nat) (us:Nat → Bool) (W:Nat):(num1T cl us W).length=W:=by simp [num1T]
theorem numT'_len (cl:List Nat) (us:Nat → Bool) (W:Nat):(numT' cl us W).length=W:=by simp [numT']
theorem num1T_get (cl:List Nat) (us:Nat → Bool) (W k:Nat) (h:k<(num1T cl us W).length):(num1T cl us W)[k]=num1 cl us k:=by simp [num1T]
theorem numT'_get (cl:List Nat) (us:Nat → Bool) (W k:Nat) (h:k<(numT' cl us W).length):(numT' cl us W)[k]=numL cl us k:=by simp [numT']
def glT (g:GrI) (W:Nat) (ps:List (Nat × Nat)):List Int:=numT' (joinAll (upToL W) ps) (usI g (joinAll (upToL W) ps)) W
def glN (g:GrI) (W:Nat) (ps:List (Nat × Nat)):Nat:=rankL (joinAll (upToL W) ps) (usI g (joinAll (upToL W) ps)) W
def glI (g:GrI) (W:Nat) (ps:List (Nat × Nat)):GrI:=mvI g (glN g W ps) (glT g W ps)
theorem num_mid (cl:List Nat) (us:Nat → Bool) (W t Z:Nat) (hZ:Z≤t) (ht:t<W) (h:Z<((numT' cl us W).take t ++ (num1T cl us W).drop t).length) :
  ((numT' cl us W).take t ++ (num1T cl us W).drop t)[Z]=if Z<t then numL cl us Z else num1 cl us Z:=by
 by_cases hlt:Z<t
 ·rw [if_pos hlt,List.getElem_append_left (by rw [List.length_take,numT'_len];omega),List.getElem_take,numT'_get]
 ·obtain rfl:Z=t:=by omega
  rw [if_neg hlt,List.getElem_append_right (by rw [List.length_take,numT'_len];omega),List.getElem_drop,num1T_get]
  congr 1
  rw [List.length_take,numT'_len];omega
theorem max_int (x y:Nat):(if (y:Int)<(x:Int) then (x:Int) else (y:Int))=((Nat.max x y:Nat):Int):=by
 split
 ·rw [show Nat.max x y=x from Nat.max_eq_left (by omega)]
 ·rw [show Nat.max x y=y from Nat.max_eq_right (by omega)]
end Go.Proofs.YtbljmfcifljkaaaGreatDoor
