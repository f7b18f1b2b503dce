/-
  The program's moved: a graph with other wires. Own work; printed by parRg.py.
-/
import Derived.Test.YtbljmfcifljkaaaGreatDoorYGA
import Derived.Test.YtbljmfcifljkaaaGreatDoorYSX
import Derived.Test.YtbljmfcifljkaaaGreatDoorYGB
import Derived.Test.YtbljmfcifljkaaaGreatDoorYSB
set_option linter.all false
set_option maxRecDepth 100000
set_option maxHeartbeats 8000000
namespace Go.Proofs.YtbljmfcifljkaaaGreatDoor
open Go.RowKit
set_option maxRecDepth 100000
set_option maxHeartbeats 8000000
structure MvSt (w wr:World) (bA C D:Nat) (cnt:Int) (vi vo:Value) (li lo:List Int) (L:List EdI) (a:Option Addr) (n c:Nat) (xs:List EdV):Prop where
 blk:Bk wr bA 53 #[.int .i64 cnt,.slice a n c,vi,vo]
 row:EdS wr D (.slice a n c) xs
 len:n=xs.length
 fst:xs.map Prod.fst=L
 inn:Rw wr w.heap.size vi li
 out:Rw wr C vo lo
 bel:Below w.heap.size w wr
 lo:w.heap.size≤bA
 sz:D≤wr.heap.size
theorem MvSt.keep {w wr w':World} {bA C D:Nat} {cnt:Int} {vi vo:Value} {li lo:List Int} {L:List EdI} {a:Option Addr} {n c:Nat} {xs:List EdV} (h:MvSt w wr bA C D cnt vi vo li lo L a n c xs) (hb:Below wr.heap.size wr w'):MvSt w w' bA C D cnt vi vo li lo L a n c xs :=
 ⟨h.blk.keep hb,h.row.keep hb,h.len,h.fst,h.inn.keep hb,h.out.keep hb,h.bel.trans (hb.mono h.bel.size),h.lo,Nat.le_trans h.sz hb.size⟩
theorem moved_any (g:GrI) (ve vi vo vt:Value) (tz:List Int) (cnt:Int) (w:World) (hR:GrR w ve vi vo g) (hok:GrB g) (ht:IntsAt w vt tz) (htl:tz.length≤1000) (hin:inTab tz g.places) :
  Calls Tryz.prog 295 #[.agg #[.int .i64 g.wires,ve,vi,vo],.int .i64 cnt,vt] w (GrMs (mvI g cnt tz) w):=by
 obtain ⟨⟨ae,ce,rfl⟩,⟨ai,ci,rfl⟩,ao,co,rfl⟩:=hR.slices
 obtain ⟨pt,ct,rfl⟩:=ht.slice
 have hmp:=fun (u:World) (hu:Below w.heap.size w u) (v:Value) (l:List Int) (hv:IntsAt u v l) (hl:inTab tz l) (hn:l.length≤1000)=>(mapped_any _ v tz l u (ht.keep hu) hv hl (by omega) (by omega)).mono (R':=RwQ (pickL tz l) u) fun _ _ h=>h.q
 obtain ⟨hp1,hp2,hp3⟩:=places_mem (g:=g)
 have HIN:=Lib.hid hin
 have HP:=Lib.hid (And.intro hp1 (And.intro hp2 hp3))
 have HOK:=Lib.hid hok
 have HMP:=Lib.hid hmp
 clear hmp hp1 hp2 hp3 hin
 have hA1:=alloc_below w (.cells #[.int .i64 g.wires,.slice ae g.edges.length ce,.slice ai g.ins.length ci,.slice ao g.outs.length co] 53)
 have hA2:=alloc_below (w.alloc (.cells #[.int .i64 g.wires,.slice ae g.edges.length ce,.slice ai g.ins.length ci,.slice ao g.outs.length co] 53)) (.cells #[.int .i64 0,.slice none 0 0,.slice none 0 0,.slice none 0 0] 53)
 have hB:=hA1.trans (hA2.mono hA1.size)
 have kG:=(Bk.new w 53 #[.int .i64 g.wires,.slice ae g.edges.length ce,.slice ai g.ins.length ci,.slice ao g.outs.length co]).keep hA2
 have kR:=Bk.new (w.alloc (.cells #[.int .i64 g.wires,.slice ae g.edges.length ce,.slice ai g.ins.length ci,.slice ao g.outs.length co] 53)) 53 #[.int .i64 0,.slice none 0 0,.slice none 0 0,.slice none 0 0]
 simp only [World.size_alloc] at kR
 clear hA1 hA2
 go_enter Tryz.func295,Tryz.ntmps295
 go_wp2_with fail
 generalize ((w.alloc (.cells #[.int .i64 g.wires,.slice ae g.edges.length ce,.slice ai g.ins.length ci,.slice ao g.outs.length co] 53)).alloc (.cells #[.int .i64 0,.slice none 0 0,.slice none 0 0,.slice none 0 0] 53))=u0 at *
 have HR1:=Lib.hid kR.lt
 obtain ⟨iG,-,zG⟩:=kG.cell
 have g1:=iG 1
 have g2:=iG 2
 have g3:=iG 3
 simp at g1 g2 g3
 clear iG
 have up0:∀ {w':World},Exc NoT u0.drew w' → Below u0.heap.size u0 w':=fun h=>(Below.refl u0.heap.size u0).drew.trans (h.toBelow.mono (by simp))
 refine region_acts (C:=Exc (NoT) _) 4 [0,1,2,3,4,5,6,7,8,9,10,11] (by kernel_rfl) (by kernel_rfl) (Exc.grows _ _) (Exc.refl _ _) ?_
 iterate 4 (apply x_st rfl rfl rfl;(focus intro u hc' hf';go_simp <;> rfl);intro K hK;go_simp;apply hK;clear hK K)
 refine x_call rfl rfl rfl (Exc.grows _ _) (Exc.refl _ _) 248 (fun K hK=>?_);apply Exists.intro;refine ⟨fun w' hw'=>?_,fun wa hwa hbwa=>?_⟩;(focus go_simp;rfl);refine (HMP.out _ (hB.trans ((up0 hwa).mono hB.size)) _ g.ins (hR.inn.keep (hB.trans ((up0 hwa).mono hB.size))) (fun k hk=>HIN.out k (HP.out.1 k hk)) HOK.out.inn).mono ?_;rintro e w3 ⟨a3,c3,rfl,hr3,hb3⟩;refine ⟨_,rfl,hb3,fun hx=>?_⟩;go_simp;apply hK;clear hK K
 iterate 3 (apply x_st rfl rfl rfl;(focus intro u hc' hf';go_simp <;> rfl);intro K hK;go_simp;apply hK;clear hK K)
 refine x_call rfl rfl rfl (Exc.grows _ _) (hx) 248 (fun K hK=>?_);apply Exists.intro;refine ⟨fun w' hw'=>?_,fun wb hwb hbwb=>?_⟩;(focus go_simp;rfl);refine (HMP.out _ (hB.trans ((up0 hwb).mono hB.size)) _ g.outs (hR.out.keep (hB.trans ((up0 hwb).mono hB.size))) (fun k hk=>HIN.out k (HP.out.2.1 k hk)) HOK.out.out).mono ?_;rintro e w4 ⟨a4,c4,rfl,hr4,hb4⟩;refine ⟨_,rfl,hb4,fun hx=>?_⟩;go_simp;apply hK;clear hK K
 iterate 1 (apply x_st rfl rfl rfl;(focus intro u hc' hf';go_simp <;> rfl);intro K hK;go_simp;apply hK;clear hK K)
 refine x_make rfl rfl rfl (Exc.grows _ _) hx (fun b=>.pointer (some ⟨b,0,none⟩)) (fun K hK=>?_)
 apply Exists.intro
 refine ⟨fun w' hw'=>?_,fun bA w7 hw7 hb7 hbo hNb hnb=>?_⟩
 ·go_simp
  rfl
 go_simp
 refine hK _ _ _ ?_
 clear hK K
 refine x_do rfl rfl rfl (Exc.grows _ _) hw7 (fun K hK=>?_)
 intro w8 hw8 hb8
 have kO:Bk w8 bA 53 #[.int .i64 0,.slice none 0 0,.slice none 0 0,.slice none 0 0]:=(hb8.block bA (made_cell hbo).2.2).trans hbo
 obtain ⟨m0,m1,m2⟩:=kO.cell
 refine ⟨(((w8.setCell ⟨bA,0,none⟩ (.int .i64 cnt)).setCell ⟨bA,1,none⟩ (.slice none 0 0)).setCell ⟨bA,2,none⟩ (.slice a3 (pickL tz g.ins).length c3)).setCell ⟨bA,3,none⟩ (.slice a4 (pickL tz g.outs).length c4),?_,⟨exc_set (exc_set (exc_set (exc_set hw8 (.inl hNb) _) (.inl hNb) _) (.inl hNb) _) (.inl hNb) _,by simp,fun j _ hj _=>by rw [Below.heap_setCell _ _ _ _ (fun h=>hj (by simp [h])),Below.heap_setCell _ _ _ _ (fun h=>hj (by simp [h])),Below.heap_setCell _ _ _ _ (fun h=>hj (by simp [h])),Below.heap_setCell _ _ _ _ (fun h=>hj (by simp [h]))]⟩,?_⟩
 ·go_simp
 go_simp
 refine hK _ _ _ ?_
 clear hK K
 refine x_nil ?_
 have hbA:u0.heap.size≤bA:=by simpa using hNb
 have hu0:w.heap.size≤u0.heap.size:=hB.size
 have hz8:=hb8.size
 obtain ⟨C,D,hC,hD,hst,hsep⟩:∃ C D,u0.heap.size≤C∧C≤D∧MvSt u0 ((((w8.setCell ⟨bA,0,none⟩ (.int .i64 cnt)).setCell ⟨bA,1,none⟩ (.slice none 0 0)).setCell ⟨bA,2,none⟩ (.slice a3 (pickL tz g.ins).length c3)).setCell ⟨bA,3,none⟩ (.slice a4 (pickL tz g.outs).length c4)) bA C D cnt (.slice a3 (pickL tz g.ins).length c3) (.slice a4 (pickL tz g.outs).length c4) (pickL tz g.ins) (pickL tz g.outs) [] none 0 0 []∧(∀ j,(Value.slice a3 (pickL tz g.ins).length c3).ownBlock=some j → j<C)∧∀ j,(Value.slice a4 (pickL tz g.outs).length c4).ownBlock=some j → j<D:=by
  have hb48:Below w4.heap.size w4 w8:=hb7.trans (hb8.mono hb7.size)
  have hr4':=hr4.keep hb48
  have hbs:=(up0 hwb).size
  have hbz:=hbwb.size
  have hb4z:=hb4.size
  have hbz8:=hb48.size
  have hr3':=(((hr3.keep hbwb).keep hb4).keep hb48).mono (B':=u0.heap.size) (by have:=(up0 hwa).size;omega)
  have k1:=kO.set 0 (.int .i64 cnt)
  have k2:=k1.set 1 (.slice none 0 0)
  have k3:=k2.set 2 (.slice a3 (pickL tz g.ins).length c3)
  have k4:=k3.set 3 (.slice a4 (pickL tz g.outs).length c4)
  refine ⟨wb.heap.size,w8.heap.size,hbs,by omega,⟨k4,EdS.nil _ _,rfl,rfl,?_,?_,?_,hbA,by simp⟩,fun j hj=>Nat.lt_of_lt_of_le (World.ownsRow.lt hr3 j hj).2 hbz,fun j hj=>Nat.lt_of_lt_of_le (World.ownsRow.lt hr4 j hj).2 hbz8⟩
  ·exact owns_other (owns_other (owns_other (owns_other hr3' _ _ (row_blk_ne hr3' kO (by decide))) _ _ (row_blk_ne hr3' kO (by decide))) _ _ (row_blk_ne hr3' kO (by decide))) _ _ (row_blk_ne hr3' kO (by decide))
  ·exact owns_other (owns_other (owns_other (owns_other hr4' _ _ (row_blk_ne hr4' kO (by decide))) _ _ (row_blk_ne hr4' kO (by decide))) _ _ (row_blk_ne hr4' kO (by decide))) _ _ (row_blk_ne hr4' kO (by decide))
  ·exact ((((up0 hw8).setCell hbA _).setCell hbA _).setCell hbA _).setCell hbA _
 have HSEP:=Lib.hid (And.intro hC (And.intro hD hsep))
 clear hsep
 clear hx hwa hbwa hwb hbwb hw7 hb7 hbo hNb hnb hw8 hb8 hr3 hr4 hb3 hb4 kO m0 m1 m2 g1 g2 g3 zG up0 hz8
 generalize ((((w8.setCell ⟨bA,0,none⟩ (.int .i64 cnt)).setCell ⟨bA,1,none⟩ (.slice none 0 0)).setCell ⟨bA,2,none⟩ (.slice a3 (pickL tz g.ins).length c3)).setCell ⟨bA,3,none⟩ (.slice a4 (pickL tz g.outs).length c4))=W at *
 generalize (pickL tz g.ins).length=ni at *
 generalize (pickL tz g.outs).length=no at *
 replace kG:=kG.keep hst.bel
 obtain ⟨iG,-,zG⟩:=kG.cell
 have g1:=iG 1
 simp at g1
 clear iG
 go_wp2_with fail
 clear g1 zG kG
 obtain ⟨pe,cpe,hee,hce,hate⟩:=hR.ed
 simp only [Value.slice.injEq] at hee
 obtain ⟨rfl,-,rfl⟩:=hee
 have hel:=HOK.out.ed
 go_loopw [23] (fun i wr=>∃ k:Nat,k≤g.edges.length∧i=.int .i64 k∧∃ a n c xs,MvSt u0 wr bA C D cnt (.slice a3 ni c3) (.slice a4 no c4) (pickL tz g.ins) (pickL tz g.outs) ((g.edges.take k).map (mvE tz)) a n c xs) (fun i _=>g.edges.length - (intOf i).toNat)
 case atStart=>exact ⟨0,Nat.zero_le _,rfl,none,0,0,[],hst⟩
 case round =>
  clear hst
  obtain ⟨k,hk,rfl,a,n,c,xs,hst⟩:=hrel
  by_cases hlt:k<g.edges.length
  ·obtain ⟨b,o,rfl,_,hnd⟩:=hate k hlt
   have hbw:=hB.trans (hst.bel.mono hB.size)
   obtain ⟨d0,d1,x1,x2,d2,d3,hi,ho⟩:=hnd.keep hbw
   have hIe:=HP.out.2.2 k hlt
   have hOe:=HOK.out.eds _ (List.getElem_mem hlt)
   have hti:=take_one g.edges k hlt
   obtain ⟨e,he⟩:∃ e,g.edges[k]=e:=⟨_,rfl⟩
   rw [he] at d0 d1 hi ho hIe hOe hti
   obtain ⟨a1,q1,rfl⟩:=hi.slice
   obtain ⟨a2,q2,rfl⟩:=ho.slice
   have bz:=cell_lt d0
   have hxl:xs.length=k:=by have:=congrArg List.length hst.fst;simp at this;omega
   have HXL:=Lib.hid hxl
   have HIE:=Lib.hid (And.intro hIe hOe)
   have HTI:=Lib.hid hti
   have hAl:=alloc_below wr (.cells #[.int .i64 e.kind,.int .i64 e.value,.slice a1 e.ins.length q1,.slice a2 e.outs.length q2] 189)
   have kE:=Bk.new wr 189 #[.int .i64 e.kind,.int .i64 e.value,.slice a1 e.ins.length q1,.slice a2 e.outs.length q2]
   have hst1:=hst.keep hAl
   have hn0:=hst.len
   have hb1:=hst1.bel
   replace hi:=hi.keep hAl
   replace ho:=ho.keep hAl
   clear hate hnd he hIe hOe hti hst hxl
   go_wp2_with fail
   generalize (wr.alloc (.cells #[.int .i64 e.kind,.int .i64 e.value,.slice a1 e.ins.length q1,.slice a2 e.outs.length q2] 189))=u1 at *
   clear d0 d1 d2 d3 bz hAl
   obtain ⟨iE,-,zE⟩:=kE.cell
   have e0:=iE 0
   have e1:=iE 1
   have e2:=iE 2
   have e3:=iE 3
   simp at e0 e1 e2 e3
   obtain ⟨iO,-,zO⟩:=hst1.blk.cell
   have o1:=iO 1
   simp at o1
   clear iE iO
   generalize wr.heap.size=E at *
   have hBu:=hB.trans (hb1.mono hB.size)
   have up1:∀ {w':World},Exc NoT u1.drew w' → Below u1.heap.size u1 w':=fun h=>(Below.refl u1.heap.size u1).drew.trans (h.toBelow.mono (by simp))
   have HN:=Lib.hid hn0
   clear hn0
   refine region_acts2 (C:=Exc (NoT) _) 9 [0,1,2,3,4,5,6,7,8,9,10,11,12,13,14,15] [16,17,18] (by kernel_rfl) (by kernel_rfl) (Exc.grows _ _) (Exc.refl _ _) ?_
   iterate 9 (apply x_st rfl rfl rfl;(focus intro u hc' hf';go_simp <;> rfl);intro K hK;go_simp;apply hK;clear hK K)
   refine x_call rfl rfl rfl (Exc.grows _ _) (Exc.refl _ _) 248 (fun K hK=>?_);apply Exists.intro;refine ⟨fun w' hw'=>?_,fun wa hwa hbwa=>?_⟩;(focus go_simp;rfl);refine (HMP.out _ (hBu.trans ((up1 hwa).mono hBu.size)) _ e.ins (hi.keep (up1 hwa)) (fun k hk=>HIN.out k (HIE.out.1.1 k hk)) HIE.out.2.1).mono ?_;rintro e w3 ⟨a5,c5,rfl,hr5,hb5⟩;refine ⟨_,rfl,hb5,fun hx=>?_⟩;go_simp;apply hK;clear hK K
   iterate 3 (apply x_st rfl rfl rfl;(focus intro u hc' hf';go_simp <;> rfl);intro K hK;go_simp;apply hK;clear hK K)
   refine x_call rfl rfl rfl (Exc.grows _ _) (hx) 248 (fun K hK=>?_);apply Exists.intro;refine ⟨fun w' hw'=>?_,fun wb hwb hbwb=>?_⟩;(focus go_simp;rfl);refine (HMP.out _ (hBu.trans ((up1 hwb).mono hBu.size)) _ e.outs (ho.keep (up1 hwb)) (fun k hk=>HIN.out k (HIE.out.1.2 k hk)) HIE.out.2.2).mono ?_;rintro e w4 ⟨a6,c6,rfl,hr6,hb6⟩;refine ⟨_,rfl,hb6,fun hx=>?_⟩;go_simp;apply hK;clear hK K
   iterate 1 (apply x_st rfl rfl rfl;(focus intro u hc' hf';go_simp <;> rfl);intro K hK;go_simp;apply hK;clear hK K)
   refine x_make rfl rfl rfl (Exc.grows _ _) (hx) (fun b=>.slice (some ⟨b,0,none⟩) 1 1) (fun K hK=>?_)
   apply Exists.intro
   refine ⟨fun w' hw'=>?_,fun bb w5 hw5 hb45 hbo hNb hnb=>?_⟩
   ·obtain ⟨hc',hf'⟩:=hw'.cell
    try simp only [World.size_drew] at hc' hf'
    go_simp
    rfl
   go_simp
   refine hK _ _ _ ?_
   clear hK K
   refine x_nil ?_
   have hb15:Below u1.heap.size u1 w5:=up1 hw5
   have hs01:=hb1.size
   have hs15:=hb15.size
   have hsz:=hst1.sz
   have hst5:EdS w5 D (.slice a n c) xs:=hst1.row.keep hb15
   have kO5:=hst1.blk.keep hb15
   have hbA5:=kO5.lt
   have hia:=(up1 hwa).size
   have hib:=(up1 hwb).size
   have hr5':=((((hr5.keep hbwb).keep hb6).keep hb45).mono (B':=D) (by omega))
   have hr6':=((hr6.keep hb45).mono (B':=D) (by omega))
   have hys:EdAll w5 D [(mvE tz e,.slice a5 (pickL tz e.ins).length c5,.slice a6 (pickL tz e.outs).length c6)]:=fun y hy=>by
    obtain rfl:=List.mem_singleton.1 hy
    exact ⟨hr5',hr6'⟩
   have hxl2:xs.length+1≤100000:=by have:=HXL.out;omega
   refine ⟨Exc (fun j=>j=bA∨(Value.slice a n c).ownBlock=some j) w5,w5.heap.size,Exc.grows _ _,Exc.refl _ _,?_⟩
   refine x_edapp rfl rfl rfl (Exc.refl _ _) (.tmp 28) (.tmp 42) rfl D (.slice a n c) xs [(mvE tz e,.slice a5 (pickL tz e.ins).length c5,.slice a6 (pickL tz e.outs).length c6)] bb 1 1 rfl rfl rfl (fun j hj=>.inl ⟨(World.ownsRow.lt hst5.row j hj).2,.inr hj⟩) (by omega) hxl2 hst5 hys (by simpa [edCells,mvE] using hbo) ?_
   intro K hK w6 w7 v7 hw6 hb56 hed hgr hw7 hv7
   obtain ⟨a7,c7,hv7e⟩:=hed.shape
   rw [List.length_append,List.length_singleton] at hv7e
   subst hv7e
   go_simp
   refine hK _ _ _ ?_
   clear hK K
   iterate 1 (apply x_sT rfl rfl rfl;(focus intro u hc' hf';(try simp only [World.size_drew] at hc' hf');go_simp <;> rfl);intro K hK;go_simp;apply hK;clear hK K)
   refine x_do rfl rfl rfl (Exc.grows _ _) hw7 (fun K hK=>?_)
   intro w8 hw8 hb78
   have kO8:Bk w8 bA 53 #[.int .i64 cnt,.slice a n c,.slice a3 ni c3,.slice a4 no c4]:=((kO5.keep hb56).grown hgr (row_blk_ne hst5.row kO5 (by decide))).keep hb78
   obtain ⟨m0,m1,m2⟩:=kO8.cell
   refine ⟨w8.setCell ⟨bA,1,none⟩ (.slice a7 (xs.length+1) c7),?_,⟨exc_set hw8 (.inr (.inl rfl)) _,by simp,fun j hN _ _=>by rw [Below.heap_setCell _ _ _ _ (fun h=>by simp at h;omega)]⟩,?_⟩
   ·go_simp
   go_simp
   refine hK _ _ _ ?_
   clear hK K
   refine x_nil ?_
   have hed8:=hed.keep hb78
   have hb5n:Below u0.heap.size w5 w7:=((Below.refl _ _).trans (hb56.mono (by omega))).grown hgr (by have:=hb56.size;omega) (fun j hj=>Nat.le_trans (Nat.le_trans HSEP.out.1 HSEP.out.2.1) (World.ownsRow.lt hst5.row j hj).1)
   have hs57:=hb5n.size
   have hs78:=hb78.size
   have hb57:Below u0.heap.size u0 w7:=(hb1.trans (hb15.mono hs01)).trans hb5n
   have mv:∀ (B':Nat) (u:Value) zs,Rw u1 B' u zs → Rw (w8.setCell ⟨bA,1,none⟩ (.slice a7 (xs.length+1) c7)) B' u zs:=fun B' u zs hu=>by
    have h5:=hu.keep hb15
    have h8:=((h5.keep hb56).grown hgr (fun k hk e=>owns_ne h5 hst5.row (by decide) k hk e)).keep hb78
    exact owns_other h8 _ _ (row_blk_ne h8 kO8 (by decide))
   have hstN:MvSt u0 (w8.setCell ⟨bA,1,none⟩ (.slice a7 (xs.length+1) c7)) bA C D cnt (.slice a3 ni c3) (.slice a4 no c4) (pickL tz g.ins) (pickL tz g.outs) ((g.edges.take (k+1)).map (mvE tz)) a7 (xs.length+1) c7 (xs ++ [(mvE tz e,.slice a5 (pickL tz e.ins).length c5,.slice a6 (pickL tz e.outs).length c6)]) :=
    ⟨kO8.set 1 _,hed8.setB kO8 (by decide) (by decide) 1 _,by simp,by rw [List.map_append,hst1.fst,HTI.out,List.map_append];rfl,mv _ _ _ hst1.inn,mv _ _ _ hst1.out,(hb57.trans (hb78.mono (by have:=hb57.size;omega))).setCell hst1.lo _,hst1.lo,by simp;omega⟩
   have HST:=Lib.hid hstN
   clear hstN mv hb57 hb5n hs57 hs78 hsz hed8 kO8 m0 m1 m2 hw8 hb78 hgr hw7 hv7 hed hw6 hb56 hys hr5' hr6' hst5 kO5 hbo hNb hnb hw5 hb45 hx hwa hbwa hwb hbwb hr5 hr6 hb5 hb6 up1 e0 e1 e2 e3 o1 kE zE zO hi ho hst1
   go_wp2
   go_roundw
   case rel=>exact ⟨k+1,by omega,by go_num,a7,_,c7,_,HST.out⟩
   case measure=>simp [intOf];omega
  ·obtain rfl:k=g.edges.length:=by omega
   rw [List.take_length] at hst
   have hfst:=hst.fst
   have hed:=hst.row.o
   rw [hfst] at hed
   have hG:GrS wr u0.heap.size (.slice a n c) (.slice a3 ni c3) (.slice a4 no c4) (mvI g cnt tz):=⟨C,D,HSEP.out.1,HSEP.out.2.1,hed,hst.inn,hst.out,HSEP.out.2.2.1,HSEP.out.2.2.2,hst.sz⟩
   have hBw:=hB.trans (hst.bel.mono hB.size)
   replace kR:=kR.keep hst.bel
   obtain ⟨iR,fR,zR⟩:=kR.cell
   obtain ⟨iO,-,zO⟩:=hst.blk.cell
   have hlow:w.heap.size+1<u0.heap.size:=HR1.out
   have HG:=Lib.hid hG
   clear hate hfst hed hG hst
   go_wp2
   refine bodyPost_ret (v:=.agg #[.int .i64 cnt,.slice a n c,.slice a3 ni c3,.slice a4 no c4]) (by simp [results,Tryz.results295,go_sem,iR]) rfl ⟨_,_,_,rfl,?_,?_⟩
   ·exact (((((HG.out).low (a:=⟨w.heap.size+1,0,none⟩) hlow _).low (a:=⟨w.heap.size+1,1,none⟩) hlow _).low (a:=⟨w.heap.size+1,2,none⟩) hlow _).low (a:=⟨w.heap.size+1,3,none⟩) hlow _).mono hB.size
   ·exact (((hBw.setCell (by simp) _).setCell (by simp) _).setCell (by simp) _).setCell (by simp) _
end Go.Proofs.YtbljmfcifljkaaaGreatDoor
/-
  The reference's hgGlued and hgGlue. Own work.
-/
namespace Go.Proofs.YtbljmfcifljkaaaGreatDoor
open Go.RowKit
set_option maxRecDepth 100000
set_option maxHeartbeats 8000000
theorem gMost_any (a b:Nat) (w:World):Calls Tryz.prog 341 #[.int .i64 a,.int .i64 b] w fun e w'=>e=.returned (.int .i64 ((Nat.max a b:Nat):Int))∧∃ m,w'=w.drewN m:=by
 rw [← max_int]
 go_enter Tryz.func341,Tryz.ntmps341
 go_wp2
 all_goals go_ret
 ·exact ⟨rfl,0,rfl⟩
 ·exact ⟨rfl,0,rfl⟩
theorem min_int (x y:Nat):(if (x:Int)<(y:Int) then (x:Int) else (y:Int))=((Nat.min x y:Nat):Int):=by
 split
 ·rw [show Nat.min x y=x from Nat.min_eq_left (by omega)]
 ·rw [show Nat.min x y=y from Nat.min_eq_right (by omega)]
theorem gLeast_any (a b:Nat) (w:World):Calls Tryz.prog 342 #[.int .i64 a,.int .i64 b] w fun e w'=>e=.returned (.int .i64 ((Nat.min a b:Nat):Int))∧∃ m,w'=w.drewN m:=by
 rw [← min_int]
 go_enter Tryz.func342,Tryz.ntmps342
 go_wp2
 all_goals go_ret
 ·exact ⟨rfl,0,rfl⟩
 ·exact ⟨rfl,0,rfl⟩
def GlMk (g:GrI) (tz:List Int) (w:World) (e:Ending) (w':World):Prop:=∃ ve vi vo vt,e=.returned (.tuple #[.agg #[.int .i64 g.wires,ve,vi,vo],vt])∧GrO w' w.heap.size ve vi vo g∧Rw w' w.heap.size vt tz∧Below w.heap.size w w'
theorem hgGlued_any (W:Nat) (E:List EdI) (I O:List Int) (ve vi vo va vb:Value) (ps:List (Nat × Nat)) (w:World) (hR:GrR w ve vi vo ⟨W,E,I,O⟩) (hA:GrW ⟨W,E,I,O⟩ W)
  (ha:IntsAt w va (nI (ps.map Prod.fst))) (hb:IntsAt w vb (nI (ps.map Prod.snd))) (hp:∀ p ∈ ps,p.1<W∧p.2<W) (hl:ps.length≤1000) :
  Calls Tryz.prog 322 #[.agg #[.int .i64 W,ve,vi,vo],va,vb] w (GlMk (glI ⟨W,E,I,O⟩ W ps) (glT ⟨W,E,I,O⟩ W ps) w):=by
 obtain ⟨ae,ce,rfl⟩:=hR.ed.slice
 obtain ⟨ai,ci,rfl⟩:=hR.inn.slice
 obtain ⟨ao,co,rfl⟩:=hR.out.slice
 obtain ⟨pa,ca,rfl,hca,hata⟩:=ha
 obtain ⟨pb,cb,rfl,hcb,hatb⟩:=hb
 have hla:(nI (ps.map Prod.fst)).length=ps.length:=by rw [nI_len,List.length_map]
 have hlb:(nI (ps.map Prod.snd)).length=ps.length:=by rw [nI_len,List.length_map]
 simp only [hla,hlb] at hata hatb hca hcb ⊢
 have HATA:=Lib.hid hata
 have HATB:=Lib.hid hatb
 clear hata hatb
 obtain ⟨i0,hi,hz0,hz1,hz2⟩:=info_parts infoInt
 dsimp only at hR ⊢
 have hWle:=hA.le
 have hA1:=alloc_below w (.cells #[.int .i64 W,.slice ae E.length ce,.slice ai I.length ci,.slice ao O.length co] 53)
 have hA2:=alloc_below (w.alloc (.cells #[.int .i64 W,.slice ae E.length ce,.slice ai I.length ci,.slice ao O.length co] 53)) (.cells #[.int .i64 0,.slice none 0 0,.slice none 0 0,.slice none 0 0] 53)
 have hB:=hA1.trans (hA2.mono hA1.size)
 have kG:=(Bk.new w 53 #[.int .i64 W,.slice ae E.length ce,.slice ai I.length ci,.slice ao O.length co]).keep hA2
 have kR:=Bk.new (w.alloc (.cells #[.int .i64 W,.slice ae E.length ce,.slice ai I.length ci,.slice ao O.length co] 53)) 53 #[.int .i64 0,.slice none 0 0,.slice none 0 0,.slice none 0 0]
 simp only [World.size_alloc] at kR
 clear hA1 hA2
 obtain ⟨u0,hu0⟩:∃ u,u=((w.alloc (.cells #[.int .i64 W,.slice ae E.length ce,.slice ai I.length ci,.slice ao O.length co] 53)).alloc (.cells #[.int .i64 0,.slice none 0 0,.slice none 0 0,.slice none 0 0] 53)):=⟨_,rfl⟩
 rw [← hu0] at hB kG kR
 have HWA:=Lib.hid hA
 have HP:=Lib.hid hp
 clear hA hp
 go_enter Tryz.func322,Tryz.ntmps322
 go_wp2_with (at_make;refine Hid.out ?_)
 refine Lib.hid ?_
 rw [← hu0]
 have hsz:u0.heap.size=w.heap.size+1+1:=by rw [hu0];simp
 clear hu0
 refine wpList_make_full _ rfl _ _ _ rfl u0.heap.size 3 i0 _ 1 Tryz.underlying40 hi hz0 hz1 _ _ _ _ W rfl rfl rfl rfl (by rw [hz2];omega) (by unfold maxLen;omega) (Nat.le_refl _) ?_
 intro w1 hown hgr
 have hz:=made_flat (f:=iCell) (0:Int) W (sz:=1) (by omega) rfl
 have hb1:Below u0.heap.size u0 w1:=(Below.refl _ _).grown hgr (Nat.le_refl _) (by simp)
 have hr1:Rw w1 u0.heap.size (.slice (some ⟨u0.heap.size,0,none⟩) W W) (List.replicate W 0):=by
  unfold Rw
  rw [List.length_replicate,← hz]
  exact hown
 have HR1:=Lib.hid hr1
 have HSZ:=Lib.hid hsz
 clear hz hown hgr hr1
 obtain ⟨g0,hg0⟩:∃ n,u0.heap.size=n:=⟨_,rfl⟩
 have HG0:=Lib.hid hg0
 rw [hg0] at HR1 ⊢
 clear hg0
 go_wp2_with fail
 go_loopw [28] (fun i wr=>∃ k:Nat,k≤W∧i=.int .i64 k∧Rw wr g0 (.slice (some ⟨g0,0,none⟩) W W) ((upL W).take k ++ (List.replicate W (0:Int)).drop k)∧Below u0.heap.size u0 wr) (fun i _=>W - (intOf i).toNat)
 case atStart=>exact ⟨0,Nat.zero_le _,rfl,by simpa using HR1.out,hb1⟩
 case round =>
  clear HR1 hb1
  obtain ⟨k,hk,rfl,hrow,hbel⟩:=hrel
  by_cases hlt:k<W
  ·obtain ⟨⟨d0,f0⟩,hset⟩:=hrow.fill (upL_len W) (by simp) hlt
   rw [upL_get] at hset
   rw [List.getElem_replicate] at d0
   have HS:=Lib.hid hset
   have HGE:=Lib.hid (show u0.heap.size≤g0 by have:=HG0.out;omega)
   clear hrow hset
   go_wp2
   go_roundw
   case rel=>exact ⟨k+1,by omega,by go_num,HS.out,hbel.setCell HGE.out _⟩
   case measure=>simp [intOf];omega
  ·obtain rfl:k=W:=by omega
   have hF:=hrow.full (upL_len _) (by simp)
   rw [upL_nI] at hF
   have HF:=Lib.hid hF
   have hb1:=hbel
   clear hrow hF hbel
   go_wp2_with fail
   go_loopw [38] (fun i wr=>∃ j:Nat,j≤ps.length∧i=.int .i64 j∧Rw wr g0 (.slice (some ⟨g0,0,none⟩) k k) (nI (clsI k ps j))∧Below u0.heap.size u0 wr) (fun i _=>ps.length - (intOf i).toNat)
   case atStart=>exact ⟨0,Nat.zero_le _,rfl,HF.out,hb1⟩
   case round =>
    clear HF hb1
    obtain ⟨j,hj,rfl,hrow,hbel⟩:=hrel
    obtain ⟨hcl,hcn⟩:=clsI_ok k ps j HP.out
    by_cases hlj:j<ps.length
    ·obtain ⟨x1,x2⟩:=HP.out _ (List.getElem_mem hlj)
     obtain ⟨ba,oa,rfl,ha0,ca0⟩:=HATA.out j hlj
     obtain ⟨bb,ob,rfl,hb0,cb0⟩:=HATB.out j hlj
     have hsu:=clsI_succ k ps j hlj
     rw [nI_get] at ca0 cb0
     simp only [List.getD_eq_getElem?_getD,List.getElem?_map,List.getElem?_eq_getElem hlj,Option.map_some,Option.getD_some] at ca0 cb0
     obtain ⟨⟨p,q⟩,hpq⟩:∃ e,ps[j]=e:=⟨_,rfl⟩
     rw [hpq] at ca0 cb0 x1 x2 hsu
     have hBw:=hB.trans (hbel.mono hB.size)
     replace ca0:=cell_keep hBw ca0
     replace cb0:=cell_keep hBw cb0
     rw [Nat.mul_one] at ca0 cb0
     obtain ⟨cl,hcle⟩:∃ cl,clsI k ps j=cl:=⟨_,rfl⟩
     rw [hcle] at hrow hcl hcn hsu
     have hrn:(nI cl).length=k:=by rw [nI_len,hcn]
     have hrow2:wr.ownsRow g0 3 1 (.slice (some ⟨g0,0,none⟩) k k) k ((nI cl).flatMap iCell):=by unfold Rw at hrow;rw [hrn] at hrow;exact hrow
     have d1:=owns_cell iCell_len hrow2 p 0 (by omega) (by omega)
     have d2:=owns_cell iCell_len hrow2 q 0 (by omega) (by omega)
     simp only [iCell,Nat.mul_one,Nat.add_zero,List.getElem?_cons_zero,nI_get] at d1 d2
     have z1:=cell_lt ca0
     have z2:=cell_lt cb0
     have z3:=cell_lt d1
     have HSU:=Lib.hid hsu
     have HROW:=Lib.hid hrow
     have HCL:=Lib.hid (And.intro hcl hcn)
     clear hcl hcn hcle hrow hrow2 hsu hrn hpq
     generalize hX:cl.getD p 0=X at *
     generalize hY:cl.getD q 0=Y at *
     have HXY:=Lib.hid (And.intro hX hY)
     clear hX hY
     have hJ:joinL cl p q=cl.map fun x=>if x=Nat.max X Y then Nat.min X Y else x:=by unfold joinL;rw [HXY.out.1,HXY.out.2]
     have HJ:=Lib.hid hJ
     have hrw0:=hbel.size
     clear hJ
     go_wp2_with fail
     go_quiet (fail)
     generalize wr=wo at *
     obtain ⟨M,hM⟩:∃ M,Nat.max X Y=M:=⟨_,rfl⟩
     obtain ⟨N,hN⟩:∃ N,Nat.min X Y=N:=⟨_,rfl⟩
     have HJ2:=Lib.hid (show joinL cl p q=cl.map fun x=>if x=M then N else x by rw [HJ.out,hM,hN])
     have HMQ:=Lib.hid (fun u=>(gMost_any X Y u).mono (R':=fun e w'=>e=.returned (.int .i64 (M:Int))∧∃ m,w'=u.drewN m) (by rw [hM];exact fun _ _ h=>h))
     have HNQ:=Lib.hid (fun u=>(gLeast_any X Y u).mono (R':=fun e w'=>e=.returned (.int .i64 (N:Int))∧∃ m,w'=u.drewN m) (by rw [hN];exact fun _ _ h=>h))
     clear HJ hM hN
     obtain ⟨J,hJ⟩:∃ J,joinL cl p q=J:=⟨_,rfl⟩
     have hJl:J.length=k:=by rw [← hJ,joinL_len,HCL.out.2]
     have HJL:=Lib.hid (And.intro hJl hJ)
     rw [hJ] at HJ2 HSU
     clear hJ hJl z1 z2 z3 ca0 cb0 d1 d2
     go_wp2_with fail
     go_loopw [57] (fun i wq=>∃ t:Nat,t≤k∧i=.int .i64 t∧Rw wq g0 (.slice (some ⟨g0,0,none⟩) k k) ((nI J).take t ++ (nI cl).drop t)∧Below u0.heap.size u0 wq) (fun i _=>k - (intOf i).toNat)
     case atStart=>exact ⟨0,Nat.zero_le _,rfl,by simpa using HROW.out.keep (below_drewN (Below.refl _ _) _),below_drewN hbel _⟩
     case round =>
      clear HROW hbel
      obtain ⟨t,ht,rfl,hrow,hbel⟩:=hrel
      have hn1:(nI J).length=k:=by rw [nI_len];exact HJL.out.1
      have hn2:(nI cl).length=k:=by rw [nI_len];exact HCL.out.2
      by_cases hlt2:t<k
      ·have hcl:=HCL.out.2
       have hJt:J.getD t 0=if cl.getD t 0=M then N else cl.getD t 0:=by
        rw [HJ2.out]
        simp [List.getD_eq_getElem?_getD,hcl,hlt2]
       have hfl:=fun (u:World) (hu:Rw u g0 (.slice (some ⟨g0,0,none⟩) k k) ((nI J).take t ++ (nI cl).drop t))=>hu.fill hn1 hn2 hlt2
       simp only [nI_get] at hfl
       obtain ⟨⟨d0,f0⟩,-⟩:=hfl wr hrow
       have hsame:=take_same (nI J) (nI cl) t (by omega) (by omega)
       rw [nI_get,nI_get] at hsame
       have HGE:=Lib.hid (show u0.heap.size≤g0 by have:=HG0.out;omega)
       have z3:=cell_lt d0
       by_cases hc:cl.getD t 0=M
       ·rw [if_pos hc] at hJt
        rw [hJt] at hfl
        rw [hc] at d0
        have HQ:=Lib.hid (fun n=>And.intro (hfl (wr.drewN n) (hrow.keep (below_drewN (Below.refl _ _) _))).2 (Below.setCell (p:=⟨g0,t,none⟩) (below_drewN hbel n) HGE.out (.int .i64 (N:Int))))
        clear hfl hsame hrow hbel hc hJt hcl hn1 hn2
        go_wp2_with fail
        go_quiet ((go_at_call 341;refine Calls.quiet_of (HMQ.out _)))
        go_wp2_with fail
        refine (HNQ.out _).mono ?_
        rintro e w2 ⟨rfl,m,rfl⟩
        go_wp2
        go_roundw
        case rel=>exact ⟨t+1,by omega,by go_num,(HQ.out _).1,(HQ.out _).2⟩
        case measure=>simp [intOf];omega
       ·rw [if_neg hc] at hJt
        rw [hJt] at hsame
        have HSM:=Lib.hid (hsame rfl)
        obtain ⟨Z,hZ⟩:∃ Z,cl.getD t 0=Z:=⟨_,rfl⟩
        rw [hZ] at d0 hc
        have hne:¬ ((Z:Int)=(M:Int)):=by omega
        clear hZ
        have HQ:=Lib.hid (fun n=>And.intro (hrow.keep (below_drewN (Below.refl _ _) n)) (below_drewN hbel n))
        clear hfl hsame hrow hbel hJt hcl hn1 hn2
        go_wp2_with fail
        go_quiet ((go_at_call 341;refine Calls.quiet_of (HMQ.out _)))
        go_wp2
        go_roundw
        case rel=>exact ⟨t+1,by omega,by go_num,by rw [← HSM.out];exact (HQ.out _).1,(HQ.out _).2⟩
        case measure=>simp [intOf];omega
      ·obtain rfl:t=k:=by omega
       have hF:=hrow.full hn1 hn2
       rw [← HSU.out] at hF
       have HF:=Lib.hid hF
       clear hrow hF
       go_wp2
       go_roundw
       case rel=>exact ⟨j+1,by omega,by go_num,HF.out,hbel⟩
       case measure=>simp [intOf];omega
    ·obtain rfl:j=ps.length:=by omega
     have hF:=hrow
     rw [show clsI k ps ps.length=joinAll (upToL k) ps from by unfold clsI;rw [List.take_length]] at hF hcl hcn
     obtain ⟨cl,hcle⟩:∃ cl,joinAll (upToL k) ps=cl:=⟨_,rfl⟩
     rw [hcle] at hF hcl hcn
     have HCL:=Lib.hid (And.intro hcl (And.intro hcn hcle))
     have HF:=Lib.hid hF
     clear hrow hF hcl hcn hcle
     have hBw:=hB.trans (hbel.mono hB.size)
     replace kG:=kG.keep hbel
     replace kR:=kR.keep hbel
     clear hbel
     obtain ⟨iG,fG,zG⟩:=kG.cell
     go_wp2_with fail
     have hgR:=hR.keep hBw
     refine (hgCounts_any ⟨(k:Int),E,I,O⟩ ae ai ao ce ci co wr hgR HWA.out.ok.ok ⟨by show (0:Int)≤(k:Int);omega,by show (k:Int)≤1000;omega⟩ HWA.out.rng HWA.out.cnt.1 HWA.out.cnt.2).mono ?_
     unfold CntP
     rintro e w2 ⟨v1,v2,rfl,hv1,hv2,hb2⟩
     rw [show (GrI.wires ⟨(k:Int),E,I,O⟩).toNat=k from Int.toNat_natCast k] at hv1 hv2
     obtain ⟨p1,y1,rfl⟩:=hv1.slice
     obtain ⟨p2,y2,rfl⟩:=hv2.slice
     rw [cnW_length] at *
     replace hBw:=hBw.trans (hb2.mono hBw.size)
     have HF2:=Lib.hid (HF.out.keep hb2)
     clear HF iG fG zG hgR
     replace kG:=kG.keep hb2
     replace kR:=kR.keep hb2
     clear hb2
     obtain ⟨iG,fG,zG⟩:=kG.cell
     obtain ⟨q0,hqi,hq0,hq1,hq2⟩:=info_parts infoBool
     go_wp2_with (at_make;refine Hid.out ?_)
     refine Lib.hid ?_
     refine wpList_make_full _ rfl _ _ _ rfl w2.heap.size 4 q0 _ 1 Tryz.underlying307 hqi hq0 hq1 _ _ _ _ k rfl rfl rfl rfl (by rw [hq2];omega) (by unfold maxLen;omega) (Nat.le_refl _) ?_
     intro w3 hown hgr
     have hz:=made_flat (f:=bCell) false k (sz:=1) (by omega) rfl
     have hb3:Below w2.heap.size w2 w3:=(Below.refl _ _).grown hgr (Nat.le_refl _) (by simp)
     obtain ⟨g1,hg1⟩:∃ n,w2.heap.size=n:=⟨_,rfl⟩
     have HG1:=Lib.hid hg1
     have hu3:w3.ownsRow g1 4 1 (.slice (some ⟨g1,0,none⟩) k k) k ((seenL k (visR cl (metW ⟨k,E,I,O⟩) 0)).flatMap bCell):=by
      show w3.ownsRow g1 4 1 (.slice (some ⟨g1,0,none⟩) k k) k ((seenL k []).flatMap bCell)
      rw [seenL_nil,← hz,← hg1]
      exact hown
     have HU3:=Lib.hid hu3
     rw [hg1] at hown ⊢
     have HV:=Lib.hid (And.intro hv1 hv2)
     have HKG:=Lib.hid (And.intro kG kR)
     clear hz hgr hu3 hg1 hown hqi hq0 hq1 hq2 iG fG zG kG kR hv1 hv2
     go_wp2_with fail
     go_loopw [86] (fun i wr=>∃ t:Nat,t≤k∧i=.int .i64 t∧wr.ownsRow g1 4 1 (.slice (some ⟨g1,0,none⟩) k k) k ((seenL k (visR cl (metW ⟨k,E,I,O⟩) t)).flatMap bCell)∧Below w2.heap.size w2 wr) (fun i _=>k - (intOf i).toNat)
     case atStart=>exact ⟨0,Nat.zero_le _,rfl,HU3.out,hb3⟩
     case round =>
      clear HU3 hb3
      obtain ⟨t,ht,rfl,hrow,hbel⟩:=hrel
      by_cases hlt4:t<k
      ·obtain ⟨hcl,hcn,hce⟩:=HCL.out
       have hle:=hcl.le t (by omega)
       have hrw:=HF2.out.keep hbel
       have hrn:(nI cl).length=k:=by rw [nI_len,hcn]
       unfold Rw at hrw
       rw [hrn] at hrw
       have d1:=owns_cell iCell_len hrw t 0 (by omega) (by omega)
       simp only [iCell,Nat.mul_one,Nat.add_zero,List.getElem?_cons_zero,nI_get] at d1
       obtain ⟨⟨px1,cx1,ex1,-,at1⟩,px2,cx2,ex2,-,at2⟩:=HV.out
       simp only [Value.slice.injEq] at ex1 ex2
       obtain ⟨rfl,-,rfl⟩:=ex1
       obtain ⟨rfl,-,rfl⟩:=ex2
       obtain ⟨b1,o1,rfl,_,f1⟩:=at1 t (by rw [cnW_length];exact hlt4)
       obtain ⟨b2,o2,rfl,_,f2⟩:=at2 t (by rw [cnW_length];exact hlt4)
       rw [cnW_get,Nat.mul_one] at f1 f2
       replace f1:=cell_keep hbel f1
       replace f2:=cell_keep hbel f2
       clear at1 at2
       have hmp:=met_pos ⟨k,E,I,O⟩ t
       have hn1:=List.count_le_length (a:=(t:Int)) (l:=GrI.origs ⟨k,E,I,O⟩)
       have hn2:=List.count_le_length (a:=(t:Int)) (l:=GrI.dests ⟨k,E,I,O⟩)
       have hc1:=HWA.out.cnt
       have hvs:=visR_succ cl (metW ⟨k,E,I,O⟩) t
       generalize List.count (t:Int) (GrI.origs ⟨k,E,I,O⟩)=A at *
       generalize List.count (t:Int) (GrI.dests ⟨k,E,I,O⟩)=D at *
       have hw:IntKind.i64.wrap ((A:Int)+D)=(A:Int)+D:=IntWalk.i64_in _ (by omega)
       obtain ⟨Z,hZ⟩:∃ Z,cl.getD t 0=Z:=⟨_,rfl⟩
       rw [hZ] at d1 hle hvs
       have z1:=cell_lt d1
       have z2:=cell_lt f1
       have z3:=cell_lt f2
       have hZk:Z<k:=by omega
       have d3:=owns_cell bCell_len hrow Z 0 (by rw [seenL_len];exact hZk) (by omega)
       have fr:=hrow.frozenAt (Z * 1)
       simp only [bCell,Nat.mul_one,Nat.add_zero,List.getElem?_cons_zero,seenL_get] at d3 fr
       have z4:=cell_lt d3
       by_cases hm:metW ⟨k,E,I,O⟩ t=true
       ·rw [if_pos hm] at hvs
        have hpos:(0:Int)<(A:Int)+D:=hmp.2 hm
        have HQ:=Lib.hid (fun n=>And.intro (owns_set bCell_len (owns_keep (below_drewN (Below.refl _ _) n) hrow) Z 0 Z (by rw [seenL_len];exact hZk) (by omega) (by omega) (.bool true) true rfl) (Below.setCell (p:=⟨g1,Z,none⟩) (below_drewN hbel n) (by show w2.heap.size≤g1;have:=HG1.out;omega) (.bool true)))
        have HVS:=Lib.hid (And.intro hvs (seenL_in k (visR cl (metW ⟨k,E,I,O⟩) t) Z hZk))
        clear hcl hcn hce hrw hrn hmp hn1 hn2 hc1 hvs hZ hm hrow hbel
        go_wp2_with fail
        go_quiet (fail)
        go_wp2
        go_roundw
        case rel=>exact ⟨t+1,by omega,by go_num,by rw [HVS.out.1,HVS.out.2];exact (HQ.out _).1,(HQ.out _).2⟩
        case measure=>simp [intOf];omega
       ·rw [if_neg hm,List.append_nil] at hvs
        have hpos:¬ (0:Int)<(A:Int)+D:=fun h=>hm (hmp.1 h)
        have hpos2:(A:Int)+D≤0:=by omega
        have HQ:=Lib.hid (fun n=>And.intro (owns_keep (below_drewN (Below.refl _ _) n) hrow) (below_drewN hbel n))
        have HVS:=Lib.hid hvs
        clear hcl hcn hce hrw hrn hmp hn1 hn2 hc1 hvs hZ hm hrow hbel
        go_wp2_with fail
        go_quiet (fail)
        go_wp2
        go_roundw
        case rel=>exact ⟨t+1,by omega,by go_num,by rw [HVS.out];exact (HQ.out _).1,(HQ.out _).2⟩
        case measure=>simp [intOf];omega
      ·obtain rfl:t=k:=by omega
       have hus0:=vis_us ⟨(t:Int),E,I,O⟩ cl t HWA.out.rng
       obtain ⟨us,hus⟩:∃ us,usI ⟨(t:Int),E,I,O⟩ cl=us:=⟨_,rfl⟩
       have HUS:=Lib.hid (show ∀ u,Below wr.heap.size wr u → ∀ r,r<t → u.cell? ⟨g1,r,none⟩=some (.bool (us r)) from fun u hu r hr=>by
        have:=owns_cell bCell_len (owns_keep hu hrow) r 0 (by rw [seenL_len];exact hr) (by omega)
        simp only [bCell,Nat.mul_one,Nat.add_zero,List.getElem?_cons_zero,seenL_get] at this
        rw [this,hus0 r,hus])
       have HUE:=Lib.hid hus
       have HCR:=Lib.hid (show ∀ u,Below wr.heap.size wr u → ∀ r,r<t → u.cell? ⟨g0,r,none⟩=some (.int .i64 ((cl.getD r 0:Nat):Int)) from fun u hu r hr=>by
        have hrn:(nI cl).length=t:=by rw [nI_len,HCL.out.2.1]
        have hrw:=(HF2.out.keep hbel).keep hu
        unfold Rw at hrw
        rw [hrn] at hrw
        have:=owns_cell iCell_len hrw r 0 (by omega) (by omega)
        simp only [iCell,Nat.mul_one,Nat.add_zero,List.getElem?_cons_zero,nI_get] at this
        exact this)
       have hg0l:0<t → g0<wr.heap.size:=fun h=>cell_lt (HCR.out wr (Below.refl _ _) 0 h)
       have hg1l:0<t → g1<wr.heap.size:=fun h=>cell_lt (HUS.out wr (Below.refl _ _) 0 h)
       replace hBw:=hBw.trans (hbel.mono hBw.size)
       have kG:=HKG.out.1.keep hbel
       have kR:=HKG.out.2.keep hbel
       clear HF2 HKG HV hrow hbel hus hus0
       have zE:=Lib.hid hBw.size
       generalize wr=wE at *
       obtain ⟨iG,fG,zG⟩:=kG.cell
       go_wp2_with (at_make;refine Hid.out ?_)
       refine Lib.hid ?_
       refine wpList_make_full _ rfl _ _ _ rfl wE.heap.size 3 i0 _ 1 Tryz.underlying40 hi hz0 hz1 _ _ _ _ t rfl rfl rfl rfl (by rw [hz2];omega) (by unfold maxLen;omega) (Nat.le_refl _) ?_
       intro w5 hown hgr
       have hz:=made_flat (f:=iCell) (0:Int) t (sz:=1) (by omega) rfl
       have hb5:Below wE.heap.size wE w5:=(Below.refl _ _).grown hgr (Nat.le_refl _) (by simp)
       have hr5:Rw w5 wE.heap.size (.slice (some ⟨wE.heap.size,0,none⟩) t t) (List.replicate t 0):=by
        unfold Rw
        rw [List.length_replicate,← hz]
        exact hown
       obtain ⟨g2,hg2⟩:∃ n,wE.heap.size=n:=⟨_,rfl⟩
       have HG2:=Lib.hid hg2
       have HGL:=Lib.hid (And.intro hg0l hg1l)
       rw [hg2] at hr5 ⊢
       have HR5:=Lib.hid hr5
       have HKG:=Lib.hid (And.intro kG kR)
       clear hz hgr hr5 hg2 hown hi hz0 hz1 hz2 iG fG zG kG kR hg0l hg1l
       go_wp2_with fail
       go_loopw [20,110] (fun n i wr=>∃ s:Nat,s≤t∧n=.int .i64 (rankL cl us s:Nat)∧i=.int .i64 s∧Rw wr g2 (.slice (some ⟨g2,0,none⟩) t t) ((num1T cl us t).take s ++ (List.replicate t (0:Int)).drop s)∧Below wE.heap.size wE wr) (fun _ i _=>t - (intOf i).toNat)
       case atStart=>exact ⟨0,Nat.zero_le _,rfl,rfl,by simpa using HR5.out,hb5⟩
       case round =>
        clear HR5 hb5
        obtain ⟨s,hs,rfl,rfl,hrow,hbel⟩:=hrel
        by_cases hlt5:s<t
        ·have d1:=HCR.out _ hbel s hlt5
         have d2:=HUS.out _ hbel s hlt5
         have hfl:=hrow.fill (num1T_len cl us t) (by simp) hlt5
         simp only [num1T_get,List.getElem_replicate] at hfl
         obtain ⟨⟨d0,f0⟩,hset⟩:=hfl
         have hsame:=take_same (num1T cl us t) (List.replicate t (0:Int)) s (by rw [num1T_len];exact hlt5) (by simp;exact hlt5)
         rw [num1T_get,List.getElem_replicate] at hsame
         have z1:=cell_lt d1
         have z2:=cell_lt d2
         have z3:=cell_lt d0
         have hrk:=rank_le (cl:=cl) (us:=us) (w:=s)
         have hrs:=rank_same (cl:=cl) (us:=us) (w:=s)
         have hrn:=rank_next (cl:=cl) (us:=us) (w:=s)
         have hn1:num1 cl us s=if cl.getD s 0=s∧us s=true then (rankL cl us s:Int) else 0:=rfl
         obtain ⟨Z,hZ⟩:∃ Z,cl.getD s 0=Z:=⟨_,rfl⟩
         rw [hZ] at d1 hrs hrn hn1
         have HGE:=Lib.hid (show wE.heap.size≤g2 by have:=HG2.out;omega)
         by_cases hc:Z=s∧us s=true
         ·rw [if_pos hc] at hn1
          rw [hn1] at hset
          have hrn2:=hrn hc.1 hc.2
          obtain ⟨hc1,hc2⟩:=hc
          subst hc1
          rw [hc2] at d2
          have HN:=Lib.hid hrn2
          have HS:=Lib.hid (And.intro hset (Below.setCell (p:=⟨g2,Z,none⟩) hbel HGE.out (.int .i64 (rankL cl us Z:Nat))))
          generalize rankL cl us Z=K at *
          have hw:IntKind.i64.wrap ((K:Int)+1)=(K:Int)+1:=IntWalk.i64_in _ (by omega)
          clear hset hsame hrow hbel hrs hrn hrn2 hn1 hZ hc2
          go_wp2
          go_roundw
          case rel=>exact ⟨Z+1,by omega,by rw [HN.out];rfl,by go_num,HS.out.1,HS.out.2⟩
          case measure=>simp [intOf];omega
         ·rw [if_neg hc] at hn1
          have HN:=Lib.hid (And.intro (hrs hc) (hsame hn1))
          have HS:=Lib.hid (And.intro hrow hbel)
          by_cases hc1:Z=s
          ·have hu:us s=false:=by
            cases hh:us s
            ·rfl
            ·exact absurd ⟨hc1,hh⟩ hc
           rw [hu] at d2
           subst hc1
           clear hset hsame hrow hbel hrs hrn hn1 hZ hc hu
           go_wp2
           go_roundw
           case rel=>exact ⟨Z+1,by omega,by rw [HN.out.1],by go_num,by rw [← HN.out.2];exact HS.out.1,HS.out.2⟩
           case measure=>simp [intOf];omega
          ·have hne:¬ ((Z:Int)=(s:Int)):=by omega
           clear hset hsame hrow hbel hrs hrn hn1 hZ hc
           go_wp2
           go_roundw
           case rel=>exact ⟨s+1,by omega,by rw [HN.out.1],by go_num,by rw [← HN.out.2];exact HS.out.1,HS.out.2⟩
           case measure=>simp [intOf];omega
        ·obtain rfl:s=t:=by omega
         have HF6:=Lib.hid (hrow.full (num1T_len _ _ _) (by simp))
         have HB6:=Lib.hid hbel
         clear hrow hbel
         go_wp2_with fail
         go_loopw [134] (fun i wr=>∃ t:Nat,t≤s∧i=.int .i64 t∧Rw wr g2 (.slice (some ⟨g2,0,none⟩) s s) ((numT' cl us s).take t ++ (num1T cl us s).drop t)∧Below wE.heap.size wE wr) (fun i _=>s - (intOf i).toNat)
         case atStart=>exact ⟨0,Nat.zero_le _,rfl,by simpa using HF6.out,HB6.out⟩
         case round =>
          clear HF6 HB6
          obtain ⟨t,ht,rfl,hrow,hbel⟩:=hrel
          by_cases hlt6:t<s
          ·have d1:=HCR.out _ hbel t hlt6
           obtain ⟨hcl,hcn,hce⟩:=HCL.out
           have hle:=hcl.le t (by omega)
           have hns:=num_second (us:=us) hcl (w:=t) (by omega)
           obtain ⟨Z,hZ⟩:∃ Z,cl.getD t 0=Z:=⟨_,rfl⟩
           rw [hZ] at d1 hle hns
           have hZs:Z<s:=by omega
           have d2:=HUS.out _ hbel Z hZs
           have hnl:((numT' cl us s).take t ++ (num1T cl us s).drop t).length=s:=by simp [numT'_len,num1T_len];omega
           have hrow2:wr.ownsRow g2 3 1 (.slice (some ⟨g2,0,none⟩) s s) s (((numT' cl us s).take t ++ (num1T cl us s).drop t).flatMap iCell):=by unfold Rw at hrow;rw [hnl] at hrow;exact hrow
           have d3:=owns_cell iCell_len hrow2 Z 0 (by omega) (by omega)
           have d4:=owns_cell iCell_len hrow2 t 0 (by omega) (by omega)
           have f4:=hrow2.frozenAt (t * 1)
           simp only [iCell,Nat.mul_one,Nat.add_zero,List.getElem?_cons_zero] at d3 d4 f4
           rw [num_mid cl us s t Z hle hlt6] at d3
           replace d4:∃ U:Int,wr.cell? ⟨g2,t,none⟩=some (.int .i64 U):=⟨_,d4⟩
           obtain ⟨U,d4⟩:=d4
           obtain ⟨V,hV⟩:∃ V,(if Z<t then numL cl us Z else num1 cl us Z)=V:=⟨_,rfl⟩
           rw [hV] at d3 hns
           have htu:=take_up (numT' cl us s) (num1T cl us s) t (by rw [numT'_len,num1T_len]) (by rw [numT'_len];exact hlt6)
           rw [numT'_get,hns] at htu
           have h1:=owns_set iCell_len hrow2 t 0 t (by omega) (by omega) (by omega) (.int .i64 V) V rfl
           have h2:=owns_set iCell_len h1 t 0 t (by rw [List.length_set];omega) (by omega) (by omega) (.int .i64 (-1)) (-1) rfl
           rw [List.set_set] at h2
           have z1:=cell_lt d1
           have z2:=cell_lt d2
           have z3:=cell_lt d3
           have hg2e:=HG2.out
           have hg0l:=HGL.out.1 (by omega)
           have hg1l:=HGL.out.2 (by omega)
           have hne0:¬ g0=g2:=by omega
           have hne1:¬ g1=g2:=by omega
           have hge:wE.heap.size≤g2:=by omega
           have hb7:=Below.setCell (p:=⟨g2,t,none⟩) hbel hge (.int .i64 V)
           have hb8:=Below.setCell (p:=⟨g2,t,none⟩) hb7 hge (.int .i64 (-1))
           have hll:((numT' cl us s).take (t+1) ++ (num1T cl us s).drop (t+1)).length=s:=by simp [numT'_len,num1T_len];omega
           cases hu:us Z
           ·rw [hu] at d2 htu
            rw [if_neg (by decide)] at htu
            rw [htu] at h2
            have HS:=Lib.hid (show Rw ((wr.setCell ⟨g2,t,none⟩ (.int .i64 V)).setCell ⟨g2,t,none⟩ (.int .i64 (-1))) g2 (.slice (some ⟨g2,0,none⟩) s s) ((numT' cl us s).take (t+1) ++ (num1T cl us s).drop (t+1))∧Below wE.heap.size wE ((wr.setCell ⟨g2,t,none⟩ (.int .i64 V)).setCell ⟨g2,t,none⟩ (.int .i64 (-1))) from ⟨by unfold Rw;rw [hll];exact h2,hb8⟩)
            clear hcl hcn hce hns hZ hrow hrow2 hnl hV htu h1 h2 hb7 hb8 hll hu hbel hg2e
            go_wp2
            go_roundw
            case rel=>exact ⟨t+1,by omega,by go_num,HS.out.1,HS.out.2⟩
            case measure=>simp [intOf];omega
           ·rw [hu] at d2 htu
            rw [if_pos rfl] at htu
            rw [htu] at h1
            have HS:=Lib.hid (show Rw (wr.setCell ⟨g2,t,none⟩ (.int .i64 V)) g2 (.slice (some ⟨g2,0,none⟩) s s) ((numT' cl us s).take (t+1) ++ (num1T cl us s).drop (t+1))∧Below wE.heap.size wE (wr.setCell ⟨g2,t,none⟩ (.int .i64 V)) from ⟨by unfold Rw;rw [hll];exact h1,hb7⟩)
            clear hcl hcn hce hns hZ hrow hrow2 hnl hV htu h1 h2 hb7 hb8 hll hu hbel hg2e
            go_wp2
            go_roundw
            case rel=>exact ⟨t+1,by omega,by go_num,HS.out.1,HS.out.2⟩
            case measure=>simp [intOf];omega
          ·obtain rfl:t=s:=by omega
           have hF7:=hrow.full (numT'_len _ _ _) (num1T_len _ _ _)
           replace hBw:=hBw.trans (hbel.mono hBw.size)
           have kG:=HKG.out.1.keep hbel
           have kR:=HKG.out.2.keep hbel
           have HC:=Lib.hid (hgMap_any ⟨(t:Int),E,I,O⟩ _ _ _ _ (numT' cl us t) (rankL cl us t:Nat) wr (hR.keep hBw) HWA.out.ok hF7.at (by rw [numT'_len];exact hWle) (fun k hk=>by rw [numT'_len];exact HWA.out.rng k hk))
           have HF7:=Lib.hid hF7
           clear hrow hbel HKG hF7
           obtain ⟨iG,fG,zG⟩:=kG.cell
           go_wp2_with fail
           refine HC.out.mono ?_
           intro q w9 hq
           obtain ⟨x1,y1',x2,y2',x3,y3,rfl,hg9,hb9⟩:=hq.q
           clear hq HC
           have hBw9:=hBw.trans (hb9.mono hBw.size)
           have hlow:=kR.lt
           replace kR:=kR.keep hb9
           have HGo:=Lib.hid hg9.o
           have HVt:=Lib.hid (HF7.out.keep hb9)
           clear iG fG zG hg9 kG
           obtain ⟨iR,fR,zR⟩:=kR.cell
           have HEQ:=Lib.hid (show mvI ⟨(t:Int),E,I,O⟩ (rankL cl us t:Nat) (numT' cl us t)=glI ⟨(t:Int),E,I,O⟩ t ps∧numT' cl us t=glT ⟨(t:Int),E,I,O⟩ t ps by
            have e1:=HCL.out.2.2
            have e2:=HUE.out
            unfold glI glN glT
            rw [e1,e2]
            exact ⟨rfl,rfl⟩)
           generalize mvI ⟨(t:Int),E,I,O⟩ (rankL cl us t:Nat) (numT' cl us t)=G at *
           generalize numT' cl us t=T at *
           obtain ⟨gw,ge,gi,gq⟩:=G
           dsimp only
           go_wp2
           refine bodyPost_ret (v:=.tuple #[.agg #[.int .i64 gw,.slice x1 ge.length y1',.slice x2 gi.length y2',.slice x3 gq.length y3],.slice (some ⟨g2,0,none⟩) t t]) (by simp [results,Tryz.results322,go_sem,iR]) rfl ?_
           rw [← HEQ.out.1,← HEQ.out.2]
           refine ⟨_,_,_,_,rfl,?_,?_,?_⟩
           ·exact (((((HGo.out).low (a:=⟨w.heap.size+1,0,none⟩) hlow _).low (a:=⟨w.heap.size+1,1,none⟩) hlow _).low (a:=⟨w.heap.size+1,2,none⟩) hlow _).low (a:=⟨w.heap.size+1,3,none⟩) hlow _).mono hBw.size
           ·have hg2w:w.heap.size≤wE.heap.size:=zE.out
            have h0:Rw w9 w.heap.size (.slice (some ⟨g2,0,none⟩) t t) T:=HVt.out.mono (by have:=HG2.out;omega)
            exact (((h0.setB kR (by decide) 0 _).setB (kR.set 0 _) (by decide) 1 _).setB ((kR.set 0 _).set 1 _) (by decide) 2 _).setB (((kR.set 0 _).set 1 _).set 2 _) (by decide) 3 _
           ·exact (((hBw9.setCell (by simp) _).setCell (by simp) _).setCell (by simp) _).setCell (by simp) _
end Go.Proofs.YtbljmfcifljkaaaGreatDoor
/-
  The program's trees of classes: root and join; what is used. Own work.
-/
namespace Go.Proofs.YtbljmfcifljkaaaGreatDoor
open Go.RowKit
set_option maxRecDepth 100000
set_option maxHeartbeats 4000000
theorem nI_at {w:World} {v:Value} {c:List Nat} (h:IntsAt w v (nI c)):∃ a q,v=.slice a c.length q∧c.length≤q∧∀ i,(hi:i<c.length) → ∃ b o,a=some ⟨b,o,none⟩∧w.cell? ⟨b,o+i,none⟩=some (.int .i64 ((c[i]:Nat):Int)):=by
 obtain ⟨a,q,rfl,hq,hat⟩:=h
 rw [nI_len] at *
 refine ⟨a,q,rfl,hq,fun i hi=>?_⟩
 obtain ⟨b,o,rfl,h1,h2⟩:=hat i (by rw [nI_len];exact hi)
 refine ⟨b,o,rfl,?_⟩
 rw [nI_get,Nat.mul_one,List.getD_eq_getElem?_getD,List.getElem?_eq_getElem hi] at h2
 exact h2
theorem root_any (v:Value) (c:List Nat) (x r:Nat) (w:World) (hv:IntsAt w v (nI c)) (hr:RootOf c x r) :
  Calls Tryz.prog 299 #[v,.int .i64 x] w fun e w'=>e=.returned (.int .i64 r)∧Below w.heap.size w w':=by
 obtain ⟨a,q,rfl,hq,hat⟩:=nI_at hv
 have HAT:=Lib.hid hat
 clear hat hv
 go_enter Tryz.func299,Tryz.ntmps299
 go_wp2
 go_loopw [1] (fun i wr=>∃ y:Nat,i=.int .i64 y∧RootOf c y r∧Below w.heap.size w wr) (fun i _=>(intOf i).toNat)
 case atStart=>exact ⟨x,rfl,hr,Below.refl _ _⟩
 case round =>
  obtain ⟨y,rfl,hroot,hbel⟩:=hrel
  have hy:=hroot.lt
  obtain ⟨b,o,rfl,c0⟩:=HAT.out y hy
  replace c0:=cell_keep hbel c0
  have bz:=cell_lt c0
  cases hroot with
  | here h =>
   have e:c[r]=r:=by rw [List.getElem?_eq_getElem hy] at h;simpa using h
   rw [e] at c0
   clear h e hr
   go_wp2
   go_ret
   exact ⟨rfl,hbel⟩
  | @up _ p _ h hp hrest =>
   have e:c[y]=p:=by rw [List.getElem?_eq_getElem hy] at h;simpa using h
   rw [e] at c0
   have hne:¬ ((p:Int)=(y:Int)):=by omega
   have HR:=Lib.hid hrest
   clear h e hr hrest
   go_wp2
   go_roundw
   case rel=>exact ⟨p,rfl,HR.out,hbel⟩
   case measure=>simp [intOf];omega
theorem nI_set (c:List Nat) (i m:Nat):nI (c.set i m)=(nI c).set i (m:Int):=by
 unfold nI
 rw [List.map_set]
theorem join_any (v:Value) (c cl:List Nat) (x y B:Nat) (w:World) (hv:Rw w B v (nI c)) (hB:B≤w.heap.size) (hc:ClsIs c cl) (hx:x<c.length) (hy:y<c.length) :
  Calls Tryz.prog 297 #[v,.int .i64 x,.int .i64 y] w fun e w'=>e=.returned (.tuple #[])∧Rw w' B v (nI (c.set (Nat.max (cl.getD x 0) (cl.getD y 0)) (Nat.min (cl.getD x 0) (cl.getD y 0))))∧Exc (fun j=>v.ownBlock=some j) w w':=by
 have hrx:=hc.rt x hx
 have hry:=hc.rt y hy
 obtain ⟨p,hp⟩:∃ p,cl.getD x 0=p:=⟨_,rfl⟩
 obtain ⟨q,hq⟩:∃ q,cl.getD y 0=q:=⟨_,rfl⟩
 rw [hp] at hrx ⊢
 rw [hq] at hry ⊢
 have hpl:=(List.getElem?_eq_some_iff.1 hrx.fix).1
 have hql:=(List.getElem?_eq_some_iff.1 hry.fix).1
 obtain ⟨g,cp,rfl,hg,hBg⟩:=Rw.block hv (by rw [nI_len];omega)
 rw [nI_len] at *
 have hml:Nat.max p q<c.length:=Nat.max_lt.2 ⟨hpl,hql⟩
 have HRX:=Lib.hid (fun u (hu:IntsAt u (.slice (some ⟨g,0,none⟩) c.length cp) (nI c))=>root_any _ c x p u hu hrx)
 have HRY:=Lib.hid (fun u (hu:IntsAt u (.slice (some ⟨g,0,none⟩) c.length cp) (nI c))=>root_any _ c y q u hu hry)
 obtain ⟨M,hM⟩:∃ M,Nat.max p q=M:=⟨_,rfl⟩
 obtain ⟨N,hN⟩:∃ N,Nat.min p q=N:=⟨_,rfl⟩
 rw [hM] at hml
 have HMN:=Lib.hid (And.intro hM hN)
 have HV:=Lib.hid hv
 clear hp hq hpl hql hrx hry hc hx hy hM hN hv
 go_enter Tryz.func297,Tryz.ntmps297
 go_wp2_with fail
 refine (HRX.out _ HV.out.at).mono ?_
 rintro e w1 ⟨rfl,hb1⟩
 have HV1:=Lib.hid (HV.out.keep hb1)
 go_wp2_with fail
 refine (HRY.out _ HV1.out.at).mono ?_
 rintro e w2 ⟨rfl,hb2⟩
 have hb12:=hb1.trans (hb2.mono hb1.size)
 have hv2:=HV1.out.keep hb2
 have hrow:w2.ownsRow B 3 1 (.slice (some ⟨g,0,none⟩) c.length cp) c.length ((nI c).flatMap iCell):=by unfold Rw at hv2;rw [nI_len] at hv2;exact hv2
 have d0:=owns_cell iCell_len hrow M 0 (by rw [nI_len];exact hml) (by omega)
 have f0:=hrow.frozenAt (M * 1)
 simp only [iCell,Nat.mul_one,Nat.add_zero,List.getElem?_cons_zero] at d0 f0
 have hset:=owns_set iCell_len hrow M 0 M (by rw [nI_len];exact hml) (by omega) (by omega) (.int .i64 (N:Int)) (N:Int) rfl
 have HS:=Lib.hid hset
 have hgz:=cell_lt d0
 have hmx:max (p:Int) (q:Int)=(M:Int):=by have h:=HMN.out.1;rw [show Nat.max p q=max p q from rfl] at h;omega
 have hmn:min (p:Int) (q:Int)=(N:Int):=by have h:=HMN.out.2;rw [show Nat.min p q=min p q from rfl] at h;omega
 clear hrow hset hv2 hb1 hb2
 go_wp2
 refine bodyPost_end (v:=.tuple #[]) (by simp [results,Tryz.results297,go_sem]) rfl ⟨rfl,?_,?_⟩
 ·rw [HMN.out.1,HMN.out.2,nI_set]
  unfold Rw
  rw [List.length_set,nI_len]
  exact HS.out
 ·refine exc_set ((Exc.refl _ _).below hb12) ?_ _
  exact .inr rfl
end Go.Proofs.YtbljmfcifljkaaaGreatDoor
/-
  Which classes are used: glue's closure over the lists of a graph. Own work; after SgG and SgH.
-/
namespace Go.Proofs.YtbljmfcifljkaaaGreatDoor
open Go.RowKit
set_option maxRecDepth 100000
set_option maxHeartbeats 4000000
def rtL (cl:List Nat) (zs:List Int):List Int:=zs.map fun z=>((cl.getD z.toNat 0:Nat):Int)
theorem rt_us (cl:List Nat) (g:GrI) (r:Nat):(rtL cl g.places).contains (r:Int)=usI g cl r:=by
 rw [Bool.eq_iff_iff]
 unfold rtL usI
 rw [List.contains_iff_mem,List.mem_map,List.any_eq_true]
 constructor
 ·rintro ⟨z,hz,e⟩
  exact ⟨z,hz,by rw [beq_iff_eq];omega⟩
 ·rintro ⟨z,hz,e⟩
  rw [beq_iff_eq] at e
  exact ⟨z,hz,by omega⟩
theorem rtL_app (cl:List Nat) (a b:List Int):rtL cl (a ++ b)=rtL cl a ++ rtL cl b:=List.map_append
structure UsSt (w0 w:World) (ub cb sg:Nat) (vc:Value) (n:Nat) (c:List Nat) (vis:List Int):Prop where
 bel:Below w0.heap.size w0 w
 lo:w0.heap.size≤sg
 ne:ub ≠ sg∧cb ≠ sg
 vne:vc.ownBlock ≠ some sg
 us:w.cell? ⟨ub,0,none⟩=some (.slice (some ⟨sg,0,none⟩) n n)
 cc:w.cell? ⟨cb,0,none⟩=some vc
 crow:Rw w 0 vc (nI c)
 row:w.ownsRow w0.heap.size 4 1 (.slice (some ⟨sg,0,none⟩) n n) n ((seenL n vis).flatMap bCell)
theorem UsSt.keep {w0 w w':World} {ub cb sg n:Nat} {vc:Value} {c:List Nat} {vis:List Int} (h:UsSt w0 w ub cb sg vc n c vis) (hb:Below w.heap.size w w'):UsSt w0 w' ub cb sg vc n c vis :=
 ⟨h.bel.trans (hb.mono h.bel.size),h.lo,h.ne,h.vne,cell_keep hb h.us,cell_keep hb h.cc,h.crow.keep hb,owns_keep hb h.row⟩
theorem UsSt.put {w0 w:World} {ub cb sg n:Nat} {vc:Value} {c:List Nat} {vis:List Int} (h:UsSt w0 w ub cb sg vc n c vis) (k:Nat) (hk:k<n):UsSt w0 (w.setCell ⟨sg,k,none⟩ (.bool true)) ub cb sg vc n c (vis ++ [(k:Int)]):=by
 obtain ⟨h1,h2,h3,h4,h5,h6,h7,h8⟩:=h
 refine ⟨h1.setCell h2 _,h2,h3,h4,?_,?_,owns_other h7 _ _ h4,?_⟩
 ·rw [World.cell?_setCell_other _ ⟨sg,k,none⟩ ⟨ub,0,none⟩ _ (by simp <;> omega)];exact h5
 ·rw [World.cell?_setCell_other _ ⟨sg,k,none⟩ ⟨cb,0,none⟩ _ (by simp <;> omega)];exact h6
 ·rw [seenL_in n vis k hk]
  exact owns_set bCell_len h8 k 0 k (by rw [seenL_len];exact hk) (by omega) (by omega) (.bool true) true rfl
theorem uvisit_any (v:Value) (zs:List Int) (w0 w:World) (ub cb sg n:Nat) (vc:Value) (c cl:List Nat) (vis:List Int) (hv:IntsAt w0 v zs) (hc:ClsIs c cl) (hcn:c.length=n) (hin:∀ z ∈ zs,0≤z∧z<(n:Int)) (hz:zs.length≤1048576) (h:UsSt w0 w ub cb sg vc n c vis) :
  Calls Tryz.prog 298 #[v,.pointer (some ⟨ub,0,none⟩),.pointer (some ⟨cb,0,none⟩)] w fun e w'=>e=.returned (.tuple #[])∧UsSt w0 w' ub cb sg vc n c (vis ++ rtL cl zs)∧Exc (fun j=>j=sg) w w':=by
 obtain ⟨a,cap,rfl,hcap,hat⟩:=hv
 have HRT:=Lib.hid (fun (u:World) (x:Nat) (hx:x<n) (hu:IntsAt u vc (nI c))=>root_any vc c x (cl.getD x 0) u hu (hc.rt x (by omega)))
 have HLT:=Lib.hid (fun (x:Nat) (hx:x<n)=>show cl.getD x 0<n by rw [← hcn];exact (List.getElem?_eq_some_iff.1 (hc.rt x (by omega)).fix).1)
 have HIN:=Lib.hid hin
 clear hc hcn hin
 go_enter Tryz.func298,Tryz.ntmps298
 go_wp2
 go_loopw [8] (fun i wr=>∃ k:Nat,k≤zs.length∧i=.int .i64 k∧UsSt w0 wr ub cb sg vc n c (vis ++ rtL cl (zs.take k))∧Exc (fun j=>j=sg) w wr) (fun i _=>zs.length - (intOf i).toNat)
 case atStart=>exact ⟨0,Nat.zero_le _,rfl,by simpa [rtL] using h,Exc.refl _ _⟩
 case round =>
  obtain ⟨k,hk,rfl,hst,hex⟩:=hrel
  clear h
  by_cases hlt:k<zs.length
  ·obtain ⟨b,o,rfl,_,c0⟩:=hat k hlt
   rw [Nat.mul_one] at c0
   replace c0:=cell_keep hst.bel c0
   have hr:=HIN.out _ (List.getElem_mem hlt)
   obtain ⟨z,hzz⟩:∃ z,zs[k]=z:=⟨_,rfl⟩
   have hT1:vis ++ rtL cl (zs.take (k+1))=(vis ++ rtL cl (zs.take k)) ++ [((cl.getD z.toNat 0:Nat):Int)]:=by rw [List.take_succ_eq_append_getElem hlt,hzz,rtL_app,List.append_assoc];rfl
   rw [hzz] at c0 hr
   obtain ⟨m,rfl⟩:∃ m:Nat,z=m:=⟨z.toNat,by omega⟩
   rw [Int.toNat_natCast] at hT1
   have hm:m<n:=by omega
   have hrl:=HLT.out m hm
   have hrt:=fun u=>HRT.out u m hm
   obtain ⟨r,hre⟩:∃ r,cl.getD m 0=r:=⟨_,rfl⟩
   rw [hre] at hT1 hrl hrt
   have HT:=Lib.hid hT1
   have HR:=Lib.hid hrt
   have HX:=Lib.hid hex
   have cu:=hst.us
   have ccc:=hst.cc
   have zu:=cell_lt cu
   have zcb:=cell_lt ccc
   have bz:=cell_lt c0
   have hne1:=hst.ne.1
   have hne2:=hst.ne.2
   have hsgz:=(World.ownsRow.lt hst.row sg (by simp [Value.ownBlock])).2
   clear hat hzz hT1 hre hrt hr hex
   go_wp2_with fail
   have up:∀ {w':World},Exc (fun j=>j=sg) wr.drew w' → Exc (fun j=>j=sg) wr w':=fun h=>((Exc.refl _ _).below (Below.refl _ _).drew).trans h
   have hcr:=hst.crow
   refine region_acts (C:=Exc ((fun j=>j=sg)) _) 2 [0,1,2,3,4,5] (by kernel_rfl) (by kernel_rfl) (Exc.grows _ _) (Exc.refl _ _) ?_
   iterate 3 (apply x_sT rfl rfl rfl;(focus intro u hc' hf';(try simp only [World.size_drew] at hc' hf');go_simp <;> rfl);intro K hK;go_simp;apply hK;clear hK K)
   refine x_call rfl rfl rfl (Exc.grows _ _) (Exc.refl _ _) 299 (fun K hK=>?_);apply Exists.intro;refine ⟨fun w' hw'=>?_,fun wa hwa hbwa=>?_⟩;(focus go_simp;rfl);refine (HR.out _ ((hcr.keep ((Below.refl _ _).drew.trans (hbwa.mono (by simp)))).at)).mono ?_;rintro e w3 ⟨rfl,hb3⟩;refine ⟨_,rfl,hb3,fun hx=>?_⟩;go_simp;apply hK;clear hK K
   iterate 1 (apply x_sT rfl rfl rfl;(focus intro u hc' hf';(try simp only [World.size_drew] at hc' hf');go_simp <;> rfl);intro K hK;go_simp;apply hK;clear hK K)
   refine x_do rfl rfl rfl (Exc.grows _ _) hx (fun K hK=>?_)
   intro w4 hw4 hb4
   have hbz1:=hbwa.size
   have hbz3:=hb3.size
   simp only [World.size_drew] at hbz1
   have hb14:Below wr.heap.size wr w4:=(((Below.refl wr.heap.size wr).drew.trans (hbwa.mono (by simp))).trans (hb3.mono hbz1)).trans (hb4.mono (by omega))
   have hs4:=hst.keep hb14
   have s0:=owns_cell bCell_len hs4.row r 0 (by rw [seenL_len];exact hrl) (by omega)
   have f0:=hs4.row.frozenAt r
   rw [seenL_get] at s0
   simp only [bCell,Nat.mul_one,Nat.add_zero,List.getElem?_cons_zero] at s0
   have zg2:=cell_lt s0
   have HS:=Lib.hid (hs4.put r hrl)
   refine ⟨w4.setCell ⟨sg,r,none⟩ (.bool true),?_,⟨exc_set hw4 (.inr rfl) _,by simp,fun j hj _ _=>by rw [Below.heap_setCell _ _ _ _ (by show ¬ _=_;intro hh;simp only [World.size_drew] at hj hh;omega)]⟩,?_⟩
   ·go_simp
   go_simp
   refine hK _ _ _ ?_
   clear hK K
   refine x_nil ?_
   have hw5:Exc (fun j=>j=sg) wr (w4.setCell ⟨sg,r,none⟩ (.bool true)):=exc_set (up hw4) (.inr rfl) _
   have HE:=Lib.hid (HX.out.trans hw5)
   clear hs4 s0 f0 hw5 hb14 hcr up hst cu ccc
   go_wp2
   go_roundw
   case rel=>exact ⟨k+1,by omega,by go_num,by rw [HT.out];exact HS.out,HE.out⟩
   case measure=>simp [intOf];omega
  ·obtain rfl:k=zs.length:=by omega
   rw [List.take_length] at hst
   go_wp2
   exact bodyPost_end (v:=.tuple #[]) (by simp [results,Tryz.results298,go_sem]) rfl ⟨rfl,hst,hex⟩
end Go.Proofs.YtbljmfcifljkaaaGreatDoor
/-
  glue: its closure over the lists of a graph. Own work; turned from SgH by a program.
-/
namespace Go.Proofs.YtbljmfcifljkaaaGreatDoor
open Go.RowKit
set_option maxRecDepth 100000
set_option maxHeartbeats 4000000
theorem ulists_any (z:Int) (ve vi vo:Value) (g:GrI) (w0 w:World) (ub cb sg n:Nat) (vc:Value) (c cl:List Nat) (hR:GrR w0 ve vi vo g) (hok:GrOk g) (hc:ClsIs c cl) (hcn:c.length=n) (hin:∀ z ∈ g.places,0≤z∧z<(n:Int)) (h:UsSt w0 w ub cb sg vc n c []) :
  Calls Tryz.prog 255 #[.agg #[.int .i64 z,ve,vi,vo],(.func (.func 298) #[] #[.pointer (some ⟨ub,0,none⟩),.pointer (some ⟨cb,0,none⟩)])] w fun e w'=>e=.returned (.tuple #[])∧UsSt w0 w' ub cb sg vc n c (rtL cl g.places):=by
 obtain ⟨⟨ae,ce,rfl⟩,⟨ai,ci,rfl⟩,ao,co,rfl⟩:=hR.slices
 have hpl:g.places=(g.ins ++ g.outs) ++ g.edges.flatMap fun e=>e.ins ++ e.outs:=by unfold GrI.places;rw [List.append_assoc]
 obtain ⟨hp1,hp2,hp3⟩:=places_mem (g:=g)
 have hv0:=fun (zs:List Int) (hz:∀ z ∈ zs,z ∈ g.places) (v:Value) (u:World) (vis:List Int) (hv:IntsAt w0 v zs) (hl:zs.length≤1048576) (hu:UsSt w0 u ub cb sg vc n c vis)=>uvisit_any v zs w0 u ub cb sg n vc c cl vis hv hc hcn (fun z h=>hin z (hz z h)) hl hu
 have HV:=Lib.hid hv0
 have HP:=Lib.hid (And.intro hp1 (And.intro hp2 hp3))
 clear hp1 hp2 hp3 hv0 hc hcn hin
 have HPL:=Lib.hid hpl
 clear hpl
 go_enter Tryz.func255,Tryz.ntmps255
 go_wp2_with fail
 have kI:=Bk.new w 53 #[.int .i64 z,.slice ae g.edges.length ce,.slice ai g.ins.length ci,.slice ao g.outs.length co]
 have hnT:¬ (w.heap.size=sg):=fun e=>by have:=(World.ownsRow.lt h.row sg (by simp [Value.ownBlock])).2;omega
 have hs0:=h.keep (alloc_below w (.cells #[.int .i64 z,.slice ae g.edges.length ce,.slice ai g.ins.length ci,.slice ao g.outs.length co] 53))
 clear h
 generalize (w.alloc (.cells #[.int .i64 z,.slice ae g.edges.length ce,.slice ai g.ins.length ci,.slice ao g.outs.length co] 53))=u0 at *
 refine (HV.out g.ins HP.out.1 _ _ [] hR.inn hok.inn hs0).mono ?_
 rintro r u1 ⟨rfl,hs1,hx1⟩
 rw [List.nil_append] at hs1
 replace kI:=kI.exc hx1 hnT
 obtain ⟨iI,-,zI⟩:=kI.cell
 clear hx1 hs0
 go_wp2_with fail
 refine (HV.out g.outs HP.out.2.1 _ _ _ hR.out hok.out hs1).mono ?_
 clear iI zI
 rintro r u2 ⟨rfl,hs2,hx2⟩
 replace kI:=kI.exc hx2 hnT
 obtain ⟨iI,-,zI⟩:=kI.cell
 clear hx2 hs1
 go_wp2_with fail
 clear iI zI kI hnT
 obtain ⟨pe,cpe,he,hce,hat⟩:=hR.ed
 simp only [Value.slice.injEq] at he
 obtain ⟨rfl,-,rfl⟩:=he
 have hel:=hok.ed
 go_loopw [17] (fun i wr=>∃ k:Nat,k≤g.edges.length∧i=.int .i64 k∧UsSt w0 wr ub cb sg vc n c (rtL cl ((g.ins ++ g.outs) ++ (g.edges.take k).flatMap fun e=>e.ins ++ e.outs))) (fun i _=>g.edges.length - (intOf i).toNat)
 case atStart=>exact ⟨0,Nat.zero_le _,rfl,by simpa [rtL_app] using hs2⟩
 case round =>
  clear hs2
  obtain ⟨k,hk,rfl,hst⟩:=hrel
  by_cases hlt:k<g.edges.length
  ·obtain ⟨b,o,rfl,_,hnd⟩:=hat k hlt
   obtain ⟨c0,c1,x1,x2,c2,c3,hi0,ho0⟩:=hnd.keep hst.bel
   obtain ⟨d0,d1,y1,y2,d2,d3,hi,ho⟩:=hnd
   obtain rfl:x1=y1:=by have:=cell_keep hst.bel d2;rw [c2] at this;exact Option.some.inj this
   obtain rfl:x2=y2:=by have:=cell_keep hst.bel d3;rw [c3] at this;exact Option.some.inj this
   obtain ⟨a1,q1,rfl⟩:=hi.slice
   obtain ⟨a2,q2,rfl⟩:=ho.slice
   have bz:=cell_lt c0
   have hok1:=hok.eds _ (List.getElem_mem hlt)
   have hT1:(g.edges.take (k+1)).flatMap (fun e=>e.ins ++ e.outs)=(g.edges.take k).flatMap (fun e=>e.ins ++ e.outs) ++ (g.edges[k].ins ++ g.edges[k].outs):=by
    rw [List.take_succ_eq_append_getElem hlt,List.flatMap_append];simp
   have HT:=Lib.hid hT1
   clear hT1 hat d0 d1 d2 d3 hi0 ho0
   go_wp2_with fail
   have kI:=Bk.new wr 189 #[.int .i64 g.edges[k].kind,.int .i64 g.edges[k].value,.slice a1 g.edges[k].ins.length q1,.slice a2 g.edges[k].outs.length q2]
   have hnT:¬ (wr.heap.size=sg):=fun e=>by have:=(World.ownsRow.lt hst.row sg (by simp [Value.ownBlock])).2;omega
   have hs0:=hst.keep (alloc_below wr (.cells #[.int .i64 g.edges[k].kind,.int .i64 g.edges[k].value,.slice a1 g.edges[k].ins.length q1,.slice a2 g.edges[k].outs.length q2] 189))
   clear hst c0 c1 c2 c3 bz
   generalize (wr.alloc (.cells #[.int .i64 g.edges[k].kind,.int .i64 g.edges[k].value,.slice a1 g.edges[k].ins.length q1,.slice a2 g.edges[k].outs.length q2] 189))=u3 at *
   refine (HV.out g.edges[k].ins (HP.out.2.2 k hlt).1 _ _ _ hi hok1.inn hs0).mono ?_
   rintro r u4 ⟨rfl,hs1,hx1⟩
   replace kI:=kI.exc hx1 hnT
   obtain ⟨iI,-,zI⟩:=kI.cell
   clear hx1 hs0
   go_wp2_with fail
   refine (HV.out g.edges[k].outs (HP.out.2.2 k hlt).2 _ _ _ ho hok1.out hs1).mono ?_
   clear iI zI
   rintro r u5 ⟨rfl,hs2,hx2⟩
   clear hx2 hs1 kI
   go_wp2_with fail
   go_roundw
   case rel=>exact ⟨k+1,by omega,by go_num,by rw [HT.out];simpa [rtL_app,List.append_assoc] using hs2⟩
   case measure=>simp [intOf];omega
  ·obtain rfl:k=g.edges.length:=by omega
   rw [List.take_length,← HPL.out] at hst
   go_wp2
   exact bodyPost_end (v:=.tuple #[]) (by simp [results,Tryz.results255,go_sem]) rfl ⟨rfl,hst⟩
end Go.Proofs.YtbljmfcifljkaaaGreatDoor
/-
  The program's glue: pairs of wires of a graph are made one. Own work.
-/
namespace Go.Proofs.YtbljmfcifljkaaaGreatDoor
open Go.RowKit
set_option maxRecDepth 100000
set_option maxHeartbeats 8000000
def PrsAt (w:World) (v:Value) (ps:List (Nat × Nat)):Prop:=SlAt 2 v ps.length fun i b o=>∃ h:i<ps.length,w.cell? ⟨b,o,none⟩=some (.int .i64 ((ps[i].1:Nat):Int))∧w.cell? ⟨b,o+1,none⟩=some (.int .i64 ((ps[i].2:Nat):Int))
theorem PrsAt.keep {w w':World} (hb:Below w.heap.size w w') {v:Value} {ps:List (Nat × Nat)} (h:PrsAt w v ps):PrsAt w' v ps :=
 SlAt.mono h fun _ _ _ ⟨hi,h1,h2⟩=>⟨hi,cell_keep hb h1,cell_keep hb h2⟩
theorem PrsAt.slice {w:World} {v:Value} {ps:List (Nat × Nat)} (h:PrsAt w v ps):∃ a c,v=.slice a ps.length c:=by
 obtain ⟨a,cap,rfl,_⟩:=h;exact ⟨a,cap,rfl⟩
def GlMp (g:GrI) (tz:List Int) (w:World) (e:Ending) (w':World):Prop:=∃ ve vi vo vt,e=.returned (.agg #[.int .i64 g.wires,ve,vi,vo,vt])∧GrO w' w.heap.size ve vi vo g∧Rw w' w.heap.size vt tz∧Below w.heap.size w w'
structure JnSt (u0 wr:World) (bC W:Nat) (vc:Value) (ps:List (Nat × Nat)) (j:Nat) (c:List Nat):Prop where
 bel:Below u0.heap.size u0 wr
 cls:ClsIs c (clsI W ps j)
 len:c.length=W
 row:Rw wr u0.heap.size vc (nI c)
 box:Bk wr bC 356 #[vc]
theorem JnSt.keep {u0 wr w':World} {bC W:Nat} {vc:Value} {ps:List (Nat × Nat)} {j:Nat} {c:List Nat} (h:JnSt u0 wr bC W vc ps j c) (hb:Below wr.heap.size wr w'):JnSt u0 w' bC W vc ps j c :=
 ⟨h.bel.trans (hb.mono h.bel.size),h.cls,h.len,h.row.keep hb,h.box.keep hb⟩
theorem glue_any (W:Nat) (E:List EdI) (I O:List Int) (ve vi vo vp:Value) (ps:List (Nat × Nat)) (w:World) (hR:GrR w ve vi vo ⟨W,E,I,O⟩) (hA:GrW ⟨W,E,I,O⟩ W)
  (hv:PrsAt w vp ps) (hp:∀ p ∈ ps,p.1<W∧p.2<W) (hl:ps.length≤1000) :
  Calls Tryz.prog 250 #[.agg #[.int .i64 W,ve,vi,vo],vp] w (GlMp (glI ⟨W,E,I,O⟩ W ps) (glT ⟨W,E,I,O⟩ W ps) w):=by
 obtain ⟨ae,ce,rfl⟩:=hR.ed.slice
 obtain ⟨ai,ci,rfl⟩:=hR.inn.slice
 obtain ⟨ao,co,rfl⟩:=hR.out.slice
 obtain ⟨pa,ca,rfl,hca,hat⟩:=hv
 have HAT:=Lib.hid hat
 clear hat
 dsimp only at hR ⊢
 have hWle:=hA.le
 have hA1:=alloc_below w (.cells #[.int .i64 W,.slice ae E.length ce,.slice ai I.length ci,.slice ao O.length co] 53)
 have hA2:=alloc_below (w.alloc (.cells #[.int .i64 W,.slice ae E.length ce,.slice ai I.length ci,.slice ao O.length co] 53)) (.cells #[.int .i64 0,.slice none 0 0,.slice none 0 0,.slice none 0 0,.slice none 0 0] 303)
 have hB:=hA1.trans (hA2.mono hA1.size)
 have kG:=(Bk.new w 53 #[.int .i64 W,.slice ae E.length ce,.slice ai I.length ci,.slice ao O.length co]).keep hA2
 have kR:=Bk.new (w.alloc (.cells #[.int .i64 W,.slice ae E.length ce,.slice ai I.length ci,.slice ao O.length co] 53)) 303 #[.int .i64 0,.slice none 0 0,.slice none 0 0,.slice none 0 0,.slice none 0 0]
 simp only [World.size_alloc] at kR
 clear hA1 hA2
 have HWA:=Lib.hid hA
 have HP:=Lib.hid hp
 clear hA hp
 go_enter Tryz.func250,Tryz.ntmps250
 go_wp2_with fail
 generalize ((w.alloc (.cells #[.int .i64 W,.slice ae E.length ce,.slice ai I.length ci,.slice ao O.length co] 53)).alloc (.cells #[.int .i64 0,.slice none 0 0,.slice none 0 0,.slice none 0 0,.slice none 0 0] 303))=u0 at *
 refine (upTo_any W u0 (by omega)).mono ?_
 rintro e u1 ⟨vc,rfl,hr1,hb1⟩
 have kC:=Bk.new u1 356 #[vc]
 have hA3:=alloc_below u1 (.cells #[vc] 356)
 have hst0:JnSt u0 (u1.alloc (.cells #[vc] 356)) u1.heap.size W vc ps 0 (upToL W):=⟨hb1.trans (hA3.mono hb1.size),by unfold clsI;exact cls_start W,by simp [upToL],by rw [← upL_nI];exact hr1.keep hA3,kC⟩
 have hbu:=hb1.size
 obtain ⟨avc,cvc,rfl⟩:=hr1.slice
 rw [upL_len] at *
 clear kC hA3 hr1 hb1
 go_wp2_with fail
 generalize (u1.alloc (.cells #[.slice avc W cvc] 356))=u2 at *
 generalize u1.heap.size=bC at *
 have HBC:=Lib.hid hbu
 clear hbu
 go_loopw [18] (fun i wr=>∃ j:Nat,j≤ps.length∧i=.int .i64 j∧∃ c,JnSt u0 wr bC W (.slice avc W cvc) ps j c) (fun i _=>ps.length - (intOf i).toNat)
 case atStart=>exact ⟨0,Nat.zero_le _,rfl,_,hst0⟩
 case round =>
  clear hst0
  obtain ⟨j,hj,rfl,c,hst⟩:=hrel
  by_cases hlj:j<ps.length
  ·obtain ⟨bp,op,rfl,_,c0,c1⟩:=HAT.out j hlj
   have hBw:=hB.trans (hst.bel.mono hB.size)
   replace c0:=cell_keep hBw c0
   replace c1:=cell_keep hBw c1
   obtain ⟨x1,x2⟩:=HP.out _ (List.getElem_mem hlj)
   have hsu:=clsI_succ W ps j hlj
   obtain ⟨⟨p,q⟩,hpq⟩:∃ e,ps[j]=e:=⟨_,rfl⟩
   rw [hpq] at c0 c1 x1 x2 hsu
   dsimp only at c0 c1 x1 x2 hsu
   have z0:=cell_lt c0
   obtain ⟨iC,-,zC⟩:=hst.box.cell
   have e0:=iC 0
   simp at e0
   have hAl:=alloc_below wr (.cells #[.int .i64 p,.int .i64 q] 301)
   have hst1:=hst.keep hAl
   have HSU:=Lib.hid hsu
   have HPQ:=Lib.hid (And.intro x1 x2)
   clear hpq hsu x1 x2 iC hst hBw
   go_wp2_with fail
   generalize (wr.alloc (.cells #[.int .i64 p,.int .i64 q] 301))=u3 at *
   have hnT:=row_blk_ne hst1.row hst1.box (by decide)
   refine (join_any _ c (clsI W ps j) p q u0.heap.size u3 hst1.row hst1.bel.size hst1.cls (by rw [hst1.len];exact HPQ.out.1) (by rw [hst1.len];exact HPQ.out.2)).mono ?_
   rintro e w4 ⟨rfl,hr4,hx4⟩
   have hst2:JnSt u0 w4 bC W (.slice avc W cvc) ps (j+1) (c.set (Nat.max ((clsI W ps j).getD p 0) ((clsI W ps j).getD q 0)) (Nat.min ((clsI W ps j).getD p 0) ((clsI W ps j).getD q 0))) :=
    ⟨hx4.keepT (fun j hj=>(World.ownsRow.lt hst1.row j hj).1) hst1.bel,by rw [HSU.out];exact cls_join hst1.cls (by rw [hst1.len];exact HPQ.out.1) (by rw [hst1.len];exact HPQ.out.2),by rw [List.length_set];exact hst1.len,hr4,hst1.box.exc hx4 hnT⟩
   have HST:=Lib.hid hst2
   clear hst2 hst1 hr4 hx4 hnT hAl
   go_wp2
   go_roundw
   case rel=>exact ⟨j+1,by omega,by go_num,_,HST.out⟩
   case measure=>simp [intOf];omega
  ·obtain rfl:j=ps.length:=by omega
   have hBw:=hB.trans (hst.bel.mono hB.size)
   replace kG:=kG.keep hst.bel
   replace kR:=kR.keep hst.bel
   obtain ⟨cl,hcle⟩:∃ cl,joinAll (upToL W) ps=cl:=⟨_,rfl⟩
   have hcls:=hst.cls
   rw [show clsI W ps ps.length=joinAll (upToL W) ps from by unfold clsI;rw [List.take_length],hcle] at hcls
   obtain ⟨hcl,hcn⟩:=clsL_all W ps HP.out
   rw [hcle] at hcl hcn
   have HCL:=Lib.hid (And.intro hcl (And.intro hcn hcle))
   have hrow:=hst.row
   have kC:=hst.box
   have hlen:=hst.len
   have HLEN:=Lib.hid hlen
   have HZ0:=Lib.hid (And.intro kR.lt hst.bel.size)
   clear hcl hcn hcle hlen hst
   obtain ⟨iG,-,zG⟩:=kG.cell
   have g0:=iG 0
   simp at g0
   clear iG
   obtain ⟨q0,hqi,hq0,hq1,hq2⟩:=info_parts infoBool
   go_wp2_with (at_make;refine Hid.out ?_)
   refine Lib.hid ?_
   refine wpList_make_full _ rfl _ _ _ rfl wr.heap.size 4 q0 _ 1 Tryz.underlying307 hqi hq0 hq1 _ _ _ _ W rfl rfl rfl rfl (by rw [hq2];omega) (by unfold maxLen;omega) (Nat.le_refl _) ?_
   intro w3 hown hgr
   have hz:=made_flat (f:=bCell) false W (sz:=1) (by omega) rfl
   have hb3:Below wr.heap.size wr w3:=(Below.refl _ _).grown hgr (Nat.le_refl _) (by simp)
   obtain ⟨sg,hsg⟩:∃ n,wr.heap.size=n:=⟨_,rfl⟩
   have hu3:w3.ownsRow sg 4 1 (.slice (some ⟨sg,0,none⟩) W W) W ((seenL W (rtL cl [])).flatMap bCell):=by
    show w3.ownsRow sg 4 1 (.slice (some ⟨sg,0,none⟩) W W) W ((seenL W []).flatMap bCell)
    rw [seenL_nil,← hz,← hsg]
    exact hown
   have HU3:=Lib.hid hu3
   have hA4:=alloc_below w3 (.cells #[.slice (some ⟨sg,0,none⟩) W W] 307)
   have kU:=Bk.new w3 307 #[.slice (some ⟨sg,0,none⟩) W W]
   have hb34:=hb3.trans (hA4.mono hb3.size)
   have hb35:=hb34
   have kC4:=(kC.keep hb3).keep hA4
   have kG4:=(kG.keep hb3).keep hA4
   have kR4:=(kR.keep hb3).keep hA4
   have hB4:=hBw.trans (hb34.mono hBw.size)
   have hrow4:=(hrow.keep hb3).keep hA4
   have hu4:=owns_keep hA4 hu3
   have hz3:=hb3.size
   rw [hsg] at hz3 ⊢
   have hvne:(Value.slice avc W cvc).ownBlock ≠ some sg:=fun e=>by have:=(World.ownsRow.lt hrow sg e).2;omega
   have HVN:=Lib.hid (And.intro hvne (And.intro kC.lt hBw.size))
   have HSG:=Lib.hid (And.intro (show sg<w3.heap.size from (World.ownsRow.lt hu3 sg (by simp [Value.ownBlock])).2) hsg)
   have kG3:=kG.keep hb3
   clear hvne hz hgr hown hqi hq0 hq1 hq2 hb3 hA4 hb34 kC hrow hu3 g0 zG HU3
   obtain ⟨iG,-,zG⟩:=kG3.cell
   go_wp2_with fail
   generalize (w3.alloc (.cells #[.slice (some ⟨sg,0,none⟩) W W] 307))=w5 at *
   clear iG zG kG3
   have hust:UsSt wr w5 w3.heap.size bC sg (.slice avc W cvc) W c (rtL cl []):=by
    obtain ⟨h1,h1'⟩:=HSG.out
    obtain ⟨h2,h2',h2''⟩:=HVN.out
    obtain ⟨h3,h3'⟩:=HZ0.out
    exact ⟨hb35,by omega,⟨by omega,by omega⟩,h2,by simpa using kU.cell.1 0,by simpa using kC4.cell.1 0,hrow4.mono (by omega),owns_mono (by omega) hu4⟩
   refine (ulists_any W _ _ _ ⟨W,E,I,O⟩ wr w5 _ _ _ W _ c cl (hR.keep hBw) HWA.out.ok.ok hcls HLEN.out HWA.out.rng hust).mono ?_
   rintro e w6 ⟨rfl,hs6⟩
   clear hust hb35 hrow4 hu4 hB4
   have hb6:=hs6.bel
   have hBw6:=hBw.trans (hb6.mono hBw.size)
   have kG6:=kG.keep hb6
   have kR6:=kR.keep hb6
   have hus:=rt_us cl ⟨W,E,I,O⟩
   obtain ⟨us,husd⟩:∃ us,us=usI ⟨W,E,I,O⟩ cl:=⟨_,rfl⟩
   rw [← husd] at hus
   have hrow6:=hs6.row
   have HUS:=Lib.hid (show ∀ u,Below w6.heap.size w6 u → ∀ r,r<W → u.cell? ⟨sg,r,none⟩=some (.bool (us r)) from fun u hu r hr=>by
    have:=owns_cell bCell_len (owns_keep hu hrow6) r 0 (by rw [seenL_len];exact hr) (by omega)
    simp only [bCell,Nat.mul_one,Nat.add_zero,List.getElem?_cons_zero,seenL_get] at this
    rw [this,hus])
   have hcrow:=hs6.crow
   have HRT:=Lib.hid (fun (u:World) (hu:Below w6.heap.size w6 u) (x:Nat) (hx:x<W)=>root_any (.slice avc W cvc) c x (cl.getD x 0) u (hcrow.keep hu).at (hcls.rt x (by rw [HLEN.out];exact hx)))
   have hccell:=hs6.cc
   have hucell:=hs6.us
   have HUE:=Lib.hid husd
   clear hus husd hrow6 hcrow hcls hs6 kG kR kU kC4 kG4 kR4
   obtain ⟨iG,-,zG⟩:=kG6.cell
   have g0:=iG 0
   simp at g0
   clear iG
   go_wp2_with fail
   refine (zeros_any W w6 (by omega)).mono ?_
   rintro e w7 ⟨vto,rfl,hr7,hb7⟩
   obtain ⟨a7,c7,rfl⟩:=hr7.slice
   rw [List.length_replicate] at *
   have HR7:=Lib.hid hr7
   have hgz:=hBw6.size
   clear hr7 g0 zG
   go_wp2_with fail
   go_loopw [10,40] (fun n i wq=>∃ t:Nat,t≤W∧n=.int .i64 (rankL cl us t:Nat)∧i=.int .i64 t∧Rw wq w6.heap.size (.slice a7 W c7) ((numT' cl us W).take t ++ (List.replicate W (0:Int)).drop t)∧Below w6.heap.size w6 wq) (fun _ i _=>W - (intOf i).toNat)
   case atStart=>exact ⟨0,Nat.zero_le _,rfl,rfl,by simpa using HR7.out,hb7⟩
   case round =>
    clear HR7 hb7
    obtain ⟨t,ht,rfl,rfl,hrow,hbel⟩:=hrel
    by_cases hlt:t<W
    ·obtain ⟨g7,c',e,hg7,hBg⟩:=hrow.block (by simp [numT'_len];omega)
     simp only [Value.slice.injEq] at e
     obtain ⟨rfl,-,rfl⟩:=e
     have d1:=cell_keep hbel hccell
     have z1:=cell_lt d1
     obtain ⟨hcl,hcn,hce⟩:=HCL.out
     have hle:=hcl.le t (by omega)
     have hrk:=rank_le (cl:=cl) (us:=us) (w:=t)
     have hrs:=rank_same (cl:=cl) (us:=us) (w:=t)
     have hrn:=rank_next (cl:=cl) (us:=us) (w:=t)
     have hno:=num_out (cl:=cl) (us:=us) (w:=t)
     have hnl:=num_low (us:=us) hcl (w:=t) (by omega)
     have hnw:=num_own (cl:=cl) (us:=us) (w:=t)
     have hrt:=HRT.out wr hbel t hlt
     have hfl:=fun (u:World) (hu:Rw u w6.heap.size (.slice (some ⟨g7,0,none⟩) W c7) ((numT' cl us W).take t ++ (List.replicate W (0:Int)).drop t))=>hu.fill (numT'_len cl us W) (by simp) hlt
     simp only [numT'_get,List.getElem_replicate] at hfl
     obtain ⟨Z,hZ⟩:∃ Z,cl.getD t 0=Z:=⟨_,rfl⟩
     rw [hZ] at hrt hle hrs hrn hno hnl hnw
     obtain ⟨k,hk⟩:∃ k,rankL cl us t=k:=⟨_,rfl⟩
     rw [hk] at hrk hrs hrn hnw ⊢
     have HRT2:=Lib.hid hrt
     have HFL:=Lib.hid hfl
     have HN:=Lib.hid (And.intro hrs (And.intro hrn (And.intro hno (And.intro hnl hnw))))
     have HROW:=Lib.hid hrow
     have hw:IntKind.i64.wrap ((k:Int)+1)=(k:Int)+1:=IntWalk.i64_in _ (by omega)
     clear hrt hfl hrs hrn hno hnl hnw hZ hcl hcn hce hrow hk
     go_wp2_with fail
     refine HRT2.out.mono ?_
     rintro e w8 ⟨rfl,hb8⟩
     have hb68:=hbel.trans (hb8.mono hbel.size)
     have hrow8:=HROW.out.keep hb8
     have d2:=cell_keep hb68 hucell
     have z2:=cell_lt d2
     have d3:=HUS.out w8 hb68 Z (by omega)
     have z3:=cell_lt d3
     obtain ⟨⟨d0,f0⟩,hset⟩:=HFL.out w8 hrow8
     have z0:=cell_lt d0
     have HS:=Lib.hid (And.intro hset (fun v=>Below.setCell (p:=⟨g7,t,none⟩) hb68 hBg v))
     have hrow9:w8.ownsRow w6.heap.size 3 1 (.slice (some ⟨g7,0,none⟩) W c7) W (((numT' cl us W).take t ++ (List.replicate W (0:Int)).drop t).flatMap iCell):=by unfold Rw at hrow8;rw [show ((numT' cl us W).take t ++ (List.replicate W (0:Int)).drop t).length=W by simp [numT'_len];omega] at hrow8;exact hrow8
     cases hu:us Z with
     | false =>
      rw [hu] at d3
      have hno:=HN.out.2.2.1 hu
      have HE:=Lib.hid (And.intro hno (HN.out.1 (fun h=>by have:=h.1;subst this;rw [h.2] at hu;cases hu)))
      clear hu hno hset hrow8 hrow9 hb8 hb68 d1 z1
      go_wp2
      go_roundw
      case rel=>exact ⟨t+1,by omega,by rw [HE.out.2],by go_num,by rw [← HE.out.1];exact HS.out.1,HS.out.2 _⟩
      case measure=>simp [intOf];omega
     | true =>
      rw [hu] at d3
      by_cases hlz:Z<t
      ·have e0:=owns_cell iCell_len hrow9 Z 0 (by simp [numT'_len];omega) (by omega)
       simp only [iCell,Nat.mul_one,Nat.add_zero,List.getElem?_cons_zero] at e0
       rw [List.getElem_append_left (by rw [List.length_take,numT'_len];omega),List.getElem_take,numT'_get,← HN.out.2.2.2.1 hu] at e0
       have HE:=Lib.hid (HN.out.1 (fun h=>by have:=h.1;omega))
       clear hu hset hrow8 hrow9 hb8 hb68 d1 z1
       go_wp2
       go_roundw
       case rel=>exact ⟨t+1,by omega,by rw [HE.out],by go_num,HS.out.1,HS.out.2 _⟩
       case measure=>simp [intOf];omega
      ·obtain rfl:Z=t:=by omega
       have e9:=HN.out.2.2.2.2 hu rfl
       have HE:=Lib.hid (And.intro e9 (HN.out.2.1 rfl hu))
       clear hu e9 hset hrow8 hrow9 hb8 hb68 d1 z1
       go_wp2
       go_roundw
       case rel=>exact ⟨Z+1,by omega,by rw [HE.out.2];rfl,by go_num,by rw [← HE.out.1];exact HS.out.1,HS.out.2 _⟩
       case measure=>simp [intOf];omega
    ·obtain rfl:t=W:=by omega
     have hF7:=hrow.full (numT'_len _ _ _) (by simp)
     have hBw7:=hBw6.trans (hbel.mono hBw6.size)
     have kG:=kG6.keep hbel
     have kR:=kR6.keep hbel
     have HC:=Lib.hid (moved_any ⟨(t:Int),E,I,O⟩ _ _ _ _ (numT' cl us t) (rankL cl us t:Nat) wr (hR.keep hBw7) HWA.out.ok hF7.at (by rw [numT'_len];exact hWle) (fun k hk=>by rw [numT'_len];exact HWA.out.rng k hk))
     have HF7:=Lib.hid hF7
     have HBL:=Lib.hid hbel.size
     clear hrow hbel hF7
     obtain ⟨iG,fG,zG⟩:=kG.cell
     go_wp2_with fail
     refine HC.out.mono ?_
     intro q w9 hq
     replace hq:=hq.k
     obtain ⟨x1,y1',x2,y2',x3,y3,rfl,hg9,hb9⟩:=hq.q
     clear hq HC
     have hBw9:=hBw7.trans (hb9.mono hBw7.size)
     have hlow:=kR.lt
     replace kR:=kR.keep hb9
     have HGo:=Lib.hid hg9
     have HVt:=Lib.hid (HF7.out.keep hb9)
     clear iG fG zG hg9 kG
     obtain ⟨iR,fR,zR⟩:=kR.cell
     have HEQ:=Lib.hid (show mvI ⟨(t:Int),E,I,O⟩ (rankL cl us t:Nat) (numT' cl us t)=glI ⟨(t:Int),E,I,O⟩ t ps∧numT' cl us t=glT ⟨(t:Int),E,I,O⟩ t ps by
      have e1:=HCL.out.2.2
      have e2:=HUE.out
      unfold glI glN glT
      rw [e1,e2]
      exact ⟨rfl,rfl⟩)
     generalize mvI ⟨(t:Int),E,I,O⟩ (rankL cl us t:Nat) (numT' cl us t)=G at *
     generalize numT' cl us t=T at *
     obtain ⟨gw,ge,gi,gq⟩:=G
     dsimp only
     go_wp2
     refine bodyPost_ret (v:=.agg #[.int .i64 gw,.slice x1 ge.length y1',.slice x2 gi.length y2',.slice x3 gq.length y3,.slice a7 t c7]) (by simp [results,Tryz.results250,go_sem,iR]) rfl ?_
     rw [← HEQ.out.1,← HEQ.out.2]
     refine ⟨_,_,_,_,rfl,?_,?_,?_⟩
     ·exact ((((((HGo.out).low (a:=⟨w.heap.size+1,0,none⟩) hlow _).low (a:=⟨w.heap.size+1,1,none⟩) hlow _).low (a:=⟨w.heap.size+1,2,none⟩) hlow _).low (a:=⟨w.heap.size+1,3,none⟩) hlow _).low (a:=⟨w.heap.size+1,4,none⟩) hlow _).mono hBw7.size
     ·have h0:Rw w9 w.heap.size (.slice a7 t c7) T:=HVt.out.mono hBw6.size
      exact ((((h0.setB kR (by decide) 0 _).setB (kR.set 0 _) (by decide) 1 _).setB ((kR.set 0 _).set 1 _) (by decide) 2 _).setB (((kR.set 0 _).set 1 _).set 2 _) (by decide) 3 _).setB ((((kR.set 0 _).set 1 _).set 2 _).set 3 _) (by decide) 4 _
     ·exact ((((hBw9.setCell (by simp) _).setCell (by simp) _).setCell (by simp) _).setCell (by simp) _).setCell (by simp) _
end Go.Proofs.YtbljmfcifljkaaaGreatDoor
