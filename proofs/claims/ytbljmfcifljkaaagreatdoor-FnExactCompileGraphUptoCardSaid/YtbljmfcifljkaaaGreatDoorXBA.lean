/-
  The last uses of the gates, by the program. Own work.
-/
import Derived.Test.YtbljmfcifljkaaaGreatDoorXAY
import Derived.Test.YtbljmfcifljkaaaGreatDoorXAV
set_option linter.all false
set_option maxRecDepth 100000
set_option maxHeartbeats 8000000
namespace Go.Proofs.YtbljmfcifljkaaaGreatDoor
open Go.RowKit
set_option maxRecDepth 100000
set_option maxHeartbeats 2000000
theorem luU_succ (t:Nat) (xs l:List Int) {k:Nat} (hk:k<xs.length):luU t (xs.take (k+1)) l=(luU t (xs.take k) l).set xs[k].toNat t:=foldl_take _ _ _ hk
theorem uses_ls (gs:List GtI) (os:List Int) {k:Nat} (hk:k<(listL gs os).length):(usesL gs os).getD k []=ndsG (gNo gs (listL gs os)[k]):=by
 unfold usesL
 rw [List.getD_eq_getElem?_getD,List.getElem?_append_left (by simpa using hk),List.getElem?_map,List.getElem?_eq_getElem hk];rfl
theorem uses_dl (gs:List GtI) (os:List Int) {k:Nat} (hk:k<(dlyL gs).length):(usesL gs os).getD ((listL gs os).length+k) []=[(gNo gs (dlyL gs)[k]).a]:=by
 unfold usesL
 rw [List.getD_eq_getElem?_getD,List.getElem?_append_right (by simp),List.length_map,Nat.add_sub_cancel_left,List.getElem?_append_left (by simpa using hk),List.getElem?_map,List.getElem?_eq_getElem hk];rfl
theorem uses_os (gs:List GtI) (os:List Int) {k:Nat} (hk:k<os.length):(usesL gs os).getD ((listL gs os).length+((dlyL gs).length+k)) []=[os[k]]:=by
 unfold usesL
 rw [List.getD_eq_getElem?_getD,List.getElem?_append_right (by simp),List.length_map,Nat.add_sub_cancel_left,List.getElem?_append_right (by simp),List.length_map,Nat.add_sub_cancel_left,List.getElem?_map,List.getElem?_eq_getElem hk];rfl
structure LuS (w:World) (cs:Array Value) (wr:World) (la:Option Addr) (lc n:Nat) (l:List Int):Prop where
 kc:Bk wr w.heap.size 112 cs
 row:Rw wr w.heap.size (.slice la n lc) l
 len:l.length=n
 bel:Below w.heap.size w wr
theorem LuS.keep {w:World} {cs:Array Value} {wr w':World} {la:Option Addr} {lc n:Nat} {l:List Int} (h:LuS w cs wr la lc n l) (hb:Below wr.heap.size wr w'):LuS w cs w' la lc n l :=
 ⟨h.kc.keep hb,h.row.keep hb,h.len,h.bel.trans (hb.mono h.bel.size)⟩
theorem LuS.put {w:World} {cs:Array Value} {wr:World} {la:Option Addr} {lc n:Nat} {l:List Int} (h:LuS w cs wr la lc n l) {k:Nat} (hk:k<n) (z:Int) :
  ∃ g old,la=some ⟨g,0,none⟩∧w.heap.size<g∧wr.cell? ⟨g,k,none⟩=some (.int .i64 old)∧wr.frozen? ⟨g,k,none⟩=false∧LuS w cs (wr.setCell ⟨g,k,none⟩ (.int .i64 z)) la lc n (l.set k z):=by
 have hlen:=h.len
 obtain ⟨g,c',e,hg,hBg⟩:=h.row.block (by omega)
 simp only [Value.slice.injEq] at e
 obtain ⟨rfl,-,rfl⟩:=e
 obtain ⟨⟨d0,f0⟩,hset⟩:=Rw.put h.row h.len hk z
 have hne:w.heap.size ≠ g:=fun e=>row_blk_ne h.row h.kc (by decide) (by simp [Value.ownBlock,e])
 exact ⟨g,_,rfl,by omega,d0,f0,h.kc.other ⟨g,k,none⟩ _ hne,hset,by rw [List.length_set];exact h.len,h.bel.setCell hBg _⟩
theorem lastUses_any (p inp:Int) (vg vo vl:Value) (gs:List GtI) (os:List Int) (w:World) (h:CiOk p inp gs os) (hg:GtsAt w vg gs) (ho:IntsAt w vo os) (hl:IntsAt w vl (listL gs os)) :
  Calls Tryz.prog 149 #[.agg #[.int .i64 inp,vg,vo],vl] w (RwP (luK (usesL gs os) gs.length (usesL gs os).length) w):=by
 have hlen:=h.len
 have hout:=h.outs
 have hul:=uses_len gs os
 have hlo:=list_ok h
 have hll:(listL gs os).length≤gs.length:=nodup_len hlo.nd hlo.rg
 have hdll:(dlyL gs).length≤gs.length:=dlyN_len gs gs.length
 have hdl:=fun (U:World) (hb:Below w.heap.size w U)=>delays_any inp vo vg gs U (hg.keep hb) (by omega)
 obtain ⟨oa,oc,rfl⟩:=ho.slice
 obtain ⟨pa,pc,rfl⟩:=hl.slice
 have HO:=Lib.hid ho
 have HL:=Lib.hid hl
 obtain ⟨a,cap,rfl,hc,hat⟩:=hg
 obtain ⟨b,o,rfl,_⟩:=hat 0 (by omega)
 have hat:∀ i,∀ hi:i<gs.length,GtAt w gs[i] b (o+i * 4):=fun i hi=>by
  obtain ⟨b2,o2,e,_,hgt⟩:=hat i hi
  simp only [Option.some.injEq,Addr.mk.injEq,and_true] at e
  obtain ⟨rfl,rfl⟩:=e
  exact hgt
 have hA1:=alloc_below w (.cells #[.int .i64 inp,.slice (some ⟨b,o,none⟩) gs.length cap,.slice oa os.length oc] 112)
 have kC:=Bk.new w 112 #[.int .i64 inp,.slice (some ⟨b,o,none⟩) gs.length cap,.slice oa os.length oc]
 have HDL:=Lib.hid hdl
 have HAT:=Lib.hid hat
 have HRG:=Lib.hid hlo.rg
 have HUL:=Lib.hid hul
 clear hdl hat ho hl hlo hul
 go_enter Tryz.func149,Tryz.ntmps149
 go_wp2_with fail
 generalize hu0:(w.alloc (.cells #[.int .i64 inp,.slice (some ⟨b,o,none⟩) gs.length cap,.slice oa os.length oc] 112))=u0 at *
 refine (repeated_any (-1) gs.length u0 (by omega)).mono ?_
 rintro e w1 ⟨v,rfl,hv,hb1⟩
 obtain ⟨la,lc,rfl⟩:=hv.slice
 rw [List.length_replicate] at *
 have hst:LuS w #[.int .i64 inp,.slice (some ⟨b,o,none⟩) gs.length cap,.slice oa os.length oc] w1 la lc gs.length (luK (usesL gs os) gs.length 0):=⟨kC.keep hb1,hv.mono (by rw [← hu0];simp),luK_len _ _ 0,hA1.trans (hb1.mono hA1.size)⟩
 clear hv hb1 hA1 kC hu0
 go_wp2_with fail
 go_loopw [6] (fun i wr=>∃ k:Nat,k≤(listL gs os).length∧i=.int .i64 k∧LuS w #[.int .i64 inp,.slice (some ⟨b,o,none⟩) gs.length cap,.slice oa os.length oc] wr la lc gs.length (luK (usesL gs os) gs.length k)) (fun i _=>(listL gs os).length - (intOf i).toNat)
 case atStart=>exact ⟨0,Nat.zero_le _,rfl,hst⟩
 case round =>
  clear hst
  obtain ⟨k,hk,rfl,hst⟩:=hrel
  by_cases hlk:k<(listL gs os).length
  ·obtain ⟨pb,po,rfl,d0⟩:=ints_cell (HL.out.keep hst.bel) hlk
   have hir:=HRG.out _ (List.getElem_mem hlk)
   have hus:=uses_ls gs os hlk
   obtain ⟨i,hii⟩:∃ i:Nat,(listL gs os)[k]=i:=⟨((listL gs os)[k]).toNat,by omega⟩
   rw [hii] at d0 hir hus
   have hi:i<gs.length:=by omega
   rw [gNo_get hi] at hus
   have hgt:=HAT.out i hi
   have hnd:=fun W=>needs_any gs[i] W
   have hnds:=ci_nds h _ (List.getElem_mem hi)
   obtain ⟨g,hgg⟩:∃ g,gs[i]=g:=⟨_,rfl⟩
   rw [hgg] at hgt hnd hnds hus
   obtain ⟨c0,c1,c2,c3⟩:=hgt.keep hst.bel
   have bz:=cell_lt c0
   have dz:=cell_lt d0
   have x1:=hst.kc.cell.1 1
   have xz:=hst.kc.lt
   simp only [List.getElem?_toArray,List.getElem?_cons_zero,List.getElem?_cons_succ] at x1
   have HND:=Lib.hid hnd
   unfold gtV at HND
   have HUS:=Lib.hid hus
   have HNDS:=Lib.hid hnds
   have hnl:(ndsG g).length≤2:=by unfold ndsG;split;exact opsG_len g;simp
   have HST:=Lib.hid hst
   have HSZ:=Lib.hid hst.bel.size
   clear hnd hii hgg hus hnds hgt hst hir
   go_wp2_with fail
   have upW:∀ {w':World},Exc NoT wr.drew w' → Below wr.heap.size wr w':=fun h=>(Below.refl wr.heap.size wr).drew.trans (h.toBelow.mono (by simp))
   refine region_acts (C:=Exc (NoT) _) 6 [0,1,2,3,4,5,6,7,8,9,10] (by kernel_rfl) (by kernel_rfl) (Exc.grows _ _) (Exc.refl _ _) ?_
   iterate 8 (apply x_st rfl rfl rfl;(focus intro u hc' hf';go_simp <;> rfl);intro K hK;go_simp;apply hK;clear hK K)
   refine x_call rfl rfl rfl (Exc.grows _ _) (Exc.refl _ _) 220 (fun K hK=>?_);apply Exists.intro;refine ⟨fun w' hw'=>?_,fun wa hwa hbwa=>?_⟩;(focus go_simp;rfl);refine (HND.out _).mono ?_;rintro e w2 ⟨x,rfl,hx2,hb2⟩;refine ⟨_,rfl,hb2,fun hx=>?_⟩;go_simp;apply hK;clear hK K
   obtain ⟨xa,xc,rfl⟩:=hx2.slice
   iterate 2 (apply x_st rfl rfl rfl;(focus intro u hc' hf';go_simp <;> rfl);intro K hK;go_simp;apply hK;clear hK K)
   refine x_nil ?_
   have hst2:=HST.out.keep (upW hx)
   have hap:∀ j,(Value.slice xa (ndsG g).length xc).ownBlock=some j → (Value.slice la gs.length lc).ownBlock ≠ some j:=fun j hj e=>by
    have h1:=(World.ownsRow.lt HST.out.row j e).2
    have h2:=(World.ownsRow.lt hx2 j hj).1
    have:=hbwa.size
    simp at this
    omega
   have hz0:luU k ((ndsG g).take 0) (luK (usesL gs os) gs.length k)=luK (usesL gs os) gs.length k:=rfl
   rw [← hz0] at hst2
   have hnxt:luK (usesL gs os) gs.length (k+1)=luU k ((ndsG g).take (ndsG g).length) (luK (usesL gs os) gs.length k):=by
    show luU k ((usesL gs os).getD k []) _=_
    rw [HUS.out,List.take_length]
   have HNXT:=Lib.hid hnxt
   have hx3:Rw w2 0 (.slice xa (ndsG g).length xc) (ndsG g):=hx2.mono (Nat.zero_le _)
   clear hb2 hx2 hx hwa hbwa upW d0 dz bz c0 c1 c2 c3 x1 xz hz0 hnxt HST
   go_wp2_with fail
   go_loopw [33] (fun q wr=>∃ k2:Nat,k2≤(ndsG g).length∧q=.int .i64 k2∧LuS w #[.int .i64 inp,.slice (some ⟨b,o,none⟩) gs.length cap,.slice oa os.length oc] wr la lc gs.length (luU k ((ndsG g).take k2) (luK (usesL gs os) gs.length k))∧Rw wr 0 (.slice xa (ndsG g).length xc) (ndsG g)) (fun q _=>(ndsG g).length - (intOf q).toNat)
   case atStart=>exact ⟨0,Nat.zero_le _,rfl,hst2,hx3⟩
   case round =>
    clear hst2 hx3
    obtain ⟨k2,hk2,rfl,hst,hx⟩:=hrel
    by_cases hlk2:k2<(ndsG g).length
    ·obtain ⟨xb,xo,rfl,d0⟩:=ints_cell hx.at hlk2
     have hzr:=HNDS.out _ (List.getElem_mem hlk2)
     have hnx:=luU_succ k (ndsG g) (luK (usesL gs os) gs.length k) hlk2
     obtain ⟨z,hz⟩:∃ z:Nat,(ndsG g)[k2]=z:=⟨((ndsG g)[k2]).toNat,by omega⟩
     rw [hz] at d0 hzr hnx
     rw [Int.toNat_natCast] at hnx
     have hzl:z<gs.length:=by omega
     obtain ⟨lg,old,rfl,hlg,l0,lf,hst2⟩:=hst.put hzl (k:Int)
     rw [← hnx] at hst2
     have hx2:Rw (wr.setCell ⟨lg,z,none⟩ (.int .i64 k)) 0 (.slice (some ⟨xb,xo,none⟩) (ndsG g).length xc) (ndsG g):=owns_other hx _ _ (hap lg · (by simp [Value.ownBlock]))
     have dz:=cell_lt d0
     have lz:=cell_lt l0
     have HS:=Lib.hid (And.intro hst2 hx2)
     clear hst2 hx2 hnx hz hst hx
     go_wp2
     go_roundw
     case rel=>exact ⟨k2+1,by omega,by go_num,HS.out.1,HS.out.2⟩
     case measure=>simp [intOf];omega
    ·obtain rfl:k2=(ndsG g).length:=by omega
     clear hx
     go_wp2
     go_roundw
     case rel=>exact ⟨k+1,by omega,by go_num,by rw [HNXT.out];exact hst⟩
     case measure=>simp [intOf];omega
  ·obtain rfl:k=(listL gs os).length:=by omega
   obtain ⟨x0,xf,xz⟩:=hst.kc.cell
   have x1:=x0 1
   have x2:=x0 2
   have x0:=x0 0
   simp only [List.getElem?_toArray,List.getElem?_cons_zero,List.getElem?_cons_succ] at x0 x1 x2
   have HSZ:=Lib.hid hst.bel.size
   go_wp2_with fail
   refine (HDL.out wr hst.bel).mono ?_
   rintro e w2 ⟨d,rfl,hd,hb2⟩
   obtain ⟨da,dc,rfl⟩:=hd.slice
   have hap:∀ j,(Value.slice da (dlyL gs).length dc).ownBlock=some j → (Value.slice la gs.length lc).ownBlock ≠ some j:=fun j hj e=>by
    have h1:=(World.ownsRow.lt hst.row j e).2
    have h2:=(World.ownsRow.lt hd j hj).1
    omega
   have hst2:=hst.keep hb2
   have hd2:Rw w2 0 (.slice da (dlyL gs).length dc) (dlyL gs):=hd.mono (Nat.zero_le _)
   clear hst hd hb2 x0 x1 x2 xf xz
   go_wp2_with fail
   go_loopw [6,45] (fun av q wr=>∃ k2:Nat,k2≤(dlyL gs).length∧q=.int .i64 k2∧av=.int .i64 (((listL gs os).length+k2:Nat):Int)∧LuS w #[.int .i64 inp,.slice (some ⟨b,o,none⟩) gs.length cap,.slice oa os.length oc] wr la lc gs.length (luK (usesL gs os) gs.length ((listL gs os).length+k2))∧Rw wr 0 (.slice da (dlyL gs).length dc) (dlyL gs)) (fun _ q _=>(dlyL gs).length - (intOf q).toNat)
   case atStart=>exact ⟨0,Nat.zero_le _,rfl,rfl,hst2,hd2⟩
   case round =>
    clear hst2 hd2
    obtain ⟨k2,hk2,rfl,rfl,hst,hd⟩:=hrel
    by_cases hlk2:k2<(dlyL gs).length
    ·obtain ⟨db,do_,rfl,d0⟩:=ints_cell hd.at hlk2
     have hdr:=dly_mem (List.getElem_mem hlk2)
     have har:=ci_dly h (List.getElem_mem hlk2)
     have hus:=uses_dl gs os hlk2
     obtain ⟨i,hii⟩:∃ i:Nat,(dlyL gs)[k2]=i:=⟨((dlyL gs)[k2]).toNat,by omega⟩
     rw [hii] at d0 hdr har hus
     have hi:i<gs.length:=by omega
     rw [gNo_get hi] at har hus
     have hgt:=HAT.out i hi
     have c1:=(hgt.keep hst.bel).2.1
     obtain ⟨z,hz⟩:∃ z:Nat,(gs[i]).a=z:=⟨((gs[i]).a).toNat,by omega⟩
     rw [hz] at c1 har hus
     have hzl:z<gs.length:=by omega
     have hnx:luK (usesL gs os) gs.length ((listL gs os).length+(k2+1))=(luK (usesL gs os) gs.length ((listL gs os).length+k2)).set z (((listL gs os).length+k2:Nat):Int):=by
      show luU ((listL gs os).length+k2) ((usesL gs os).getD ((listL gs os).length+k2) []) _=_
      rw [hus]
      show List.set _ ((z:Int)).toNat _=_
      rw [Int.toNat_natCast]
      rfl
     obtain ⟨lg,old,rfl,hlg,l0,lf,hst2⟩:=hst.put hzl (((listL gs os).length+k2:Nat):Int)
     rw [← hnx] at hst2
     have hd2:Rw (wr.setCell ⟨lg,z,none⟩ (.int .i64 (((listL gs os).length+k2:Nat):Int))) 0 (.slice (some ⟨db,do_,none⟩) (dlyL gs).length dc) (dlyL gs):=owns_other hd _ _ (hap lg · (by simp [Value.ownBlock]))
     have dz:=cell_lt d0
     have lz:=cell_lt l0
     have bz:=cell_lt c1
     have x1:=hst.kc.cell.1 1
     have xz:=hst.kc.lt
     simp only [List.getElem?_toArray,List.getElem?_cons_zero,List.getElem?_cons_succ] at x1
     have HS:=Lib.hid (And.intro hst2 hd2)
     have hN:((listL gs os).length+k2:Nat)≤1000:=by omega
     obtain ⟨N,hNe⟩:∃ N,(listL gs os).length+k2=N:=⟨_,rfl⟩
     rw [hNe] at HS hN ⊢
     have HNE:=Lib.hid hNe
     clear hst2 hd2 hnx hz hst hd hii hus hgt hNe
     go_wp2
     go_roundw
     case rel=>exact ⟨k2+1,by omega,by go_num,by rw [← Nat.add_assoc,HNE.out];go_num,HS.out.1,HS.out.2⟩
     case measure=>simp [intOf];omega
    ·obtain rfl:k2=(dlyL gs).length:=by omega
     clear hd
     have x2:=hst.kc.cell.1 2
     have xz:=hst.kc.lt
     simp only [List.getElem?_toArray,List.getElem?_cons_zero,List.getElem?_cons_succ] at x2
     generalize hww:wr=wo at *
     clear hww
     go_wp2_with fail
     go_loopw [6,64] (fun av q wr=>∃ k2:Nat,k2≤os.length∧q=.int .i64 k2∧av=.int .i64 (((listL gs os).length+((dlyL gs).length+k2):Nat):Int)∧LuS w #[.int .i64 inp,.slice (some ⟨b,o,none⟩) gs.length cap,.slice oa os.length oc] wr la lc gs.length (luK (usesL gs os) gs.length ((listL gs os).length+((dlyL gs).length+k2)))) (fun _ q _=>os.length - (intOf q).toNat)
     case atStart=>exact ⟨0,Nat.zero_le _,rfl,rfl,hst⟩
     case round =>
      clear hst x2 xz
      obtain ⟨k2,hk2,rfl,rfl,hst⟩:=hrel
      by_cases hlk2:k2<os.length
      ·obtain ⟨db,do_,rfl,d0⟩:=ints_cell (HO.out.keep hst.bel) hlk2
       have hzr:=h.orange _ (List.getElem_mem hlk2)
       have hus:=uses_os gs os hlk2
       obtain ⟨z,hz⟩:∃ z:Nat,os[k2]=z:=⟨(os[k2]).toNat,by omega⟩
       rw [hz] at d0 hzr hus
       have hzl:z<gs.length:=by omega
       have hnx:luK (usesL gs os) gs.length ((listL gs os).length+((dlyL gs).length+(k2+1)))=(luK (usesL gs os) gs.length ((listL gs os).length+((dlyL gs).length+k2))).set z (((listL gs os).length+((dlyL gs).length+k2):Nat):Int):=by
        show luU ((listL gs os).length+((dlyL gs).length+k2)) ((usesL gs os).getD ((listL gs os).length+((dlyL gs).length+k2)) []) _=_
        rw [hus]
        show List.set _ ((z:Int)).toNat _=_
        rw [Int.toNat_natCast]
        rfl
       obtain ⟨lg,old,rfl,hlg,l0,lf,hst2⟩:=hst.put hzl (((listL gs os).length+((dlyL gs).length+k2):Nat):Int)
       rw [← hnx] at hst2
       have dz:=cell_lt d0
       have lz:=cell_lt l0
       have HS:=Lib.hid hst2
       have hN:((listL gs os).length+((dlyL gs).length+k2):Nat)≤1000:=by omega
       obtain ⟨N,hNe⟩:∃ N,(listL gs os).length+((dlyL gs).length+k2)=N:=⟨_,rfl⟩
       rw [hNe] at HS hN ⊢
       have HNE:=Lib.hid hNe
       clear hst2 hnx hz hst hus hNe
       go_wp2
       go_roundw
       case rel=>exact ⟨k2+1,by omega,by go_num,by rw [← Nat.add_assoc (dlyL gs).length,← Nat.add_assoc,HNE.out];go_num,HS.out⟩
       case measure=>simp [intOf];omega
      ·obtain rfl:k2=os.length:=by omega
       have hres:Rw wr w.heap.size (.slice la gs.length lc) (luK (usesL gs os) gs.length (usesL gs os).length):=by rw [HUL.out];exact hst.row
       have hbel:=hst.bel
       have HR:=Lib.hid hres
       clear hst hres
       go_wp2
       go_ret
       exact ⟨_,rfl,HR.out,hbel⟩
end Go.Proofs.YtbljmfcifljkaaaGreatDoor
