/-
  The values that each instruction uses, by the reference. Own work.
-/
import Derived.Test.YtbljmfcifljkaaaGreatDoorXAZ
import Derived.Test.YtbljmfcifljkaaaGreatDoorXBA
import Derived.Test.YtbljmfcifljkaaaGreatDoorXAI
set_option linter.all false
set_option maxRecDepth 100000
set_option maxHeartbeats 8000000
namespace Go.Proofs.YtbljmfcifljkaaaGreatDoor
open Go.RowKit
set_option maxRecDepth 100000
set_option maxHeartbeats 2000000
structure UsR (w wr:World) (v:Value) (xs:List (List Int × Value)):Prop where
 row:wr.ownsRow w.heap.size 40 1 v xs.length (xs.flatMap lCell)
 els:∀ x ∈ xs,Rw wr 0 x.2 x.1
theorem UsR.keep {w wr w':World} {v:Value} {xs:List (List Int × Value)} (hb:Below wr.heap.size wr w') (h:UsR w wr v xs):UsR w w' v xs:=⟨owns_keep hb h.row,fun x hx=>(h.els x hx).keep hb⟩
theorem UsR.slice {w wr:World} {v:Value} {xs:List (List Int × Value)} (h:UsR w wr v xs):∃ a c,v=.slice a xs.length c:=by
 rcases h.row.2 with ⟨e,h0⟩|⟨g,cap,cur,e,_⟩
 ·subst e
  have:xs.length=0:=by
   cases xs with
   | nil=>rfl
   | cons x r=>simp [lCell] at h0
  exact ⟨none,0,by rw [this]⟩
 ·exact ⟨_,_,e⟩
theorem UsR.at {w wr:World} {v:Value} {xs:List (List Int × Value)} (h:UsR w wr v xs):LsAt wr v (xs.map Prod.fst):=by
 have ho:wr.ownsRow w.heap.size 40 1 v (xs.map Prod.fst).length (xs.flatMap lCell):=by rw [List.length_map];exact h.row
 refine owns_slat ho _ fun i b o hi' hc=>⟨hi',?_⟩
 have hi:i<xs.length:=by simpa using hi'
 refine ⟨xs[i].2,?_,?_⟩
 ·exact (hc 0 (by omega)).trans (flat_get lCell_len xs i 0 hi (by omega))
 ·rw [List.getElem_map];exact (h.els _ (List.getElem_mem hi)).at
theorem us_append {w wa:World} {ops:Array Oper} {rest:List Oper} {o:Oper} {a:Act} {Q:Exit → Act → World → Prop} (hgd:o.guard=none) (s y:Operand)
  (ho:o.op=.call { callee:=.builtin .append,args:=#[s,y],argTypes:=#[256,256] })
  (v:Value) (xs:List (List Int × Value)) (hs:a.eval s=v) (b:Nat) (u:Value) (l:List Int) (hy:a.eval y=.slice (some ⟨b,0,none⟩) 1 1) (h:UsR w wa v xs) (hb:Bk wa b 40 #[u]) (hu:Rw wa 0 u l) (hB:w.heap.size≤wa.heap.size) (hl:xs.length≤1000000)
  (H:∀ v' w',UsR w w' v' (xs ++ [(l,u)]) → wa.grownBy w' v.ownBlock → (v'.ownBlock=v.ownBlock∨v'.ownBlock=some wa.heap.size) → wpList Tryz.prog ops Q rest (a.put o.dst v') w'):wpList Tryz.prog ops Q (o :: rest) a wa:=by
 obtain ⟨i0,hi,hz0,hz1,hz2⟩:=info_parts infoInts
 obtain ⟨ua,uc,rfl⟩:=hu.slice
 refine wpList_append_src hgd s y 256 ho w.heap.size 40 i0 _ 1 24 Tryz.underlying256 hi hz0 hz1 hz2 rfl (by decide) v xs.length _ hs h.row (.slice (some ⟨b,0,none⟩) 1 1) 1 [.slice ua l.length uc] hy ⟨rfl,.inr ⟨_,_,rfl,fun j z hj=>?_⟩⟩ (by simp [Value.oneCell']) (by unfold maxLen;omega) (by omega) hB ?_
 ·have hc:=hb.cell.1 0
  simp only [List.getElem?_toArray,List.getElem?_cons_zero] at hc
  cases j with
  | zero=>simp at hj;subst hj;simpa [Addr.add] using hc
  | succ j=>simp at hj
 intro v' w' h1 h2 h3
 refine H v' w' ⟨?_,fun x hx=>?_⟩ h2 h3
 ·rw [List.length_append,List.flatMap_append]
  exact h1
 ·rcases List.mem_append.1 hx with hx|hx
  ·exact (h.els x hx).grown h2 (fun k hk e=>owns_ne (h.els x hx) h.row (by decide) k hk e)
  ·simp at hx;subst hx
   exact hu.grown h2 (fun k hk e=>owns_ne hu h.row (by decide) k hk e)
theorem us_len {w wr:World} {v:Value} {xs:List (List Int × Value)} {U:List (List Int)} {k:Nat} (he:xs.map Prod.fst=U.take k):xs.length≤k:=by
 have:=congrArg List.length he
 rw [List.length_map,List.length_take] at this
 omega
structure UcS (w:World) (cs:Array Value) (wr:World) (v:Value) (xs:List (List Int × Value)):Prop where
 kc:Bk wr w.heap.size 112 cs
 us:UsR w wr v xs
 bel:Below w.heap.size w wr
theorem UcS.keep {w:World} {cs:Array Value} {wr w':World} {v:Value} {xs:List (List Int × Value)} (h:UcS w cs wr v xs) (hb:Below wr.heap.size wr w'):UcS w cs w' v xs:=⟨h.kc.keep hb,h.us.keep hb,h.bel.trans (hb.mono h.bel.size)⟩
theorem UcS.app {w:World} {cs:Array Value} {wr w':World} {v v':Value} {xs xs':List (List Int × Value)} (h:UcS w cs wr v xs) (hg:wr.grownBy w' v.ownBlock) (q:UsR w w' v' xs'):UcS w cs w' v' xs' :=
 ⟨h.kc.grown hg (row_blk_ne h.us.row h.kc (by decide)),q,h.bel.grown hg h.bel.size (fun j hj=>(World.ownsRow.lt h.us.row j hj).1)⟩
theorem UcS.rw {w:World} {cs:Array Value} {wr w':World} {v u:Value} {xs:List (List Int × Value)} {l:List Int} {B:Nat} (h:UcS w cs wr v xs) (hg:wr.grownBy w' v.ownBlock) (hu:Rw wr B u l):Rw w' B u l:=hu.grown hg (fun k hk e=>owns_ne hu h.us.row (by decide) k hk e)
theorem cmUses_any (p inp:Int) (vg vo vl:Value) (gs:List GtI) (os:List Int) (w:World) (h:CiOk p inp gs os) (hg:GtsAt w vg gs) (ho:IntsAt w vo os) (hl:IntsAt w vl (listL gs os)) :
  Calls Tryz.prog 206 #[.agg #[.int .i64 inp,vg,vo],vl] w fun e w'=>∃ v,e=.returned v∧LsAt w' v (usesL gs os)∧Below w.heap.size w w':=by
 have hlen:=h.len
 have hout:=h.outs
 have hul:=uses_len gs os
 have hlo:=list_ok h
 have hll:(listL gs os).length≤gs.length:=nodup_len hlo.nd hlo.rg
 have hdll:(dlyL gs).length≤gs.length:=dlyN_len gs gs.length
 have hdl:=fun (U:World) (hb:Below w.heap.size w U)=>crDelays_any inp vo vg gs U (hg.keep hb) (by omega)
 obtain ⟨oa,oc,rfl⟩:=ho.slice
 obtain ⟨pa,pc,rfl⟩:=hl.slice
 have HO:=Lib.hid ho
 have HL:=Lib.hid hl
 obtain ⟨a,cap,rfl,hc,hat⟩:=hg
 obtain ⟨b,o,rfl,_⟩:=hat 0 (by omega)
 have hat:∀ i,∀ hi:i<gs.length,GtAt w gs[i] b (o+i * 4):=fun i hi=>by
  obtain ⟨b2,o2,e,_,hgt⟩:=hat i hi
  simp only [Option.some.injEq,Addr.mk.injEq,and_true] at e
  obtain ⟨rfl,rfl⟩:=e
  exact hgt
 have hA1:=alloc_below w (.cells #[.int .i64 inp,.slice (some ⟨b,o,none⟩) gs.length cap,.slice oa os.length oc] 112)
 have kC:=Bk.new w 112 #[.int .i64 inp,.slice (some ⟨b,o,none⟩) gs.length cap,.slice oa os.length oc]
 have hst:UcS w #[.int .i64 inp,.slice (some ⟨b,o,none⟩) gs.length cap,.slice oa os.length oc] (w.alloc (.cells #[.int .i64 inp,.slice (some ⟨b,o,none⟩) gs.length cap,.slice oa os.length oc] 112)) (.slice none 0 0) []:=⟨kC,⟨World.ownsRow_nil _ _ _ _,by simp⟩,hA1⟩
 obtain ⟨U,hU⟩:∃ U,usesL gs os=U:=⟨_,rfl⟩
 have HU:=Lib.hid hU
 have HDL:=Lib.hid hdl
 have HAT:=Lib.hid hat
 have HRG:=Lib.hid hlo.rg
 have HUL:=Lib.hid hul
 rw [hU]
 clear hdl hat ho hl hlo hul hA1 kC hU
 go_enter Tryz.func206,Tryz.ntmps206
 go_wp2_with fail
 generalize (w.alloc (.cells #[.int .i64 inp,.slice (some ⟨b,o,none⟩) gs.length cap,.slice oa os.length oc] 112))=u0 at *
 go_loopw [5,14] (fun rv i wr=>∃ k:Nat,k≤(listL gs os).length∧i=.int .i64 k∧∃ xs,UcS w #[.int .i64 inp,.slice (some ⟨b,o,none⟩) gs.length cap,.slice oa os.length oc] wr rv xs∧xs.map Prod.fst=U.take k) (fun _ i _=>(listL gs os).length - (intOf i).toNat)
 case atStart=>exact ⟨0,Nat.zero_le _,rfl,[],hst,rfl⟩
 case round =>
  clear hst
  obtain ⟨k,hk,rfl,xs,hst,hxs⟩:=hrel
  obtain ⟨ra,rc,rfl⟩:=hst.us.slice
  have hxl:=us_len (w:=w) (wr:=wr) (v:=.nilIface) hxs
  by_cases hlk:k<(listL gs os).length
  ·obtain ⟨pb,po,rfl,d0⟩:=ints_cell (HL.out.keep hst.bel) hlk
   have hir:=HRG.out _ (List.getElem_mem hlk)
   have hus:=uses_ls gs os hlk
   obtain ⟨i,hii⟩:∃ i:Nat,(listL gs os)[k]=i:=⟨((listL gs os)[k]).toNat,by omega⟩
   rw [hii] at d0 hir hus
   have hi:i<gs.length:=by omega
   rw [gNo_get hi,HU.out] at hus
   have htk:U.take (k+1)=U.take k ++ [ndsG gs[i]]:=by
    have hkU:k<U.length:=by rw [← HU.out,HUL.out];omega
    rw [List.take_succ_eq_append_getElem hkU]
    rw [List.getD_eq_getElem?_getD,List.getElem?_eq_getElem hkU] at hus
    congr 2
   have hgt:=HAT.out i hi
   have hcm:=fun W=>crCombines_any gs[i] W
   have hop:=fun W=>crOperands_any gs[i] W
   obtain ⟨g,hgg⟩:∃ g,gs[i]=g:=⟨_,rfl⟩
   rw [hgg] at hgt hcm hop htk
   obtain ⟨kd,ga,gb,gv⟩:=g
   unfold gtV at hcm hop
   simp only at hcm hop
   obtain ⟨c0,c1,c2,c3⟩:=hgt.keep hst.bel
   simp only at c0 c1 c2 c3
   have C:=Lib.hid (And.intro c0 (And.intro c1 (And.intro c2 c3)))
   have bz:=cell_lt c0
   have dz:=cell_lt d0
   have x1:=hst.kc.cell.1 1
   have xz:=hst.kc.lt
   simp only [List.getElem?_toArray,List.getElem?_cons_zero,List.getElem?_cons_succ] at x1
   have HCM:=Lib.hid hcm
   have HOP:=Lib.hid hop
   clear hcm hop hgg hii hus hgt hir
   cases hcb:cmbB ⟨kd,ga,gb,gv⟩ with
   | true =>
    rw [nds_yes hcb] at htk
    rw [hcb] at HCM
    have HTK:=Lib.hid htk
    clear htk hcb
    go_wp2_with fail
    refine (HCM.out _).mono ?_
    rintro e w2 ⟨rfl,hb2⟩
    replace x1:=cell_keep hb2 x1
    replace c0:=cell_keep hb2 c0
    replace c1:=cell_keep hb2 c1
    replace c2:=cell_keep hb2 c2
    replace c3:=cell_keep hb2 c3
    replace bz:=cell_lt c0
    replace xz:=cell_lt x1
    have hst2:=hst.keep hb2
    go_wp2_with fail
    refine (HOP.out _).mono ?_
    rintro e w3 ⟨u,rfl,hu,hb3⟩
    have hst3:=hst2.keep hb3
    obtain ⟨ua,uc,rfl⟩:=hu.slice
    have hu0:=hu.mono (Nat.zero_le _)
    obtain ⟨L,hL⟩:∃ L,opsG ⟨kd,ga,gb,gv⟩=L:=⟨_,rfl⟩
    rw [hL] at hu0 HTK ⊢
    have hA4:=alloc_below w3 (.cells #[.slice ua L.length uc] 40)
    have kU:=Bk.new w3 40 #[.slice ua L.length uc]
    have hst4:=hst3.keep hA4
    have hu4:=hu0.keep hA4
    have hble:=hst4.bel.size
    have hus4:=hst4.us
    clear hst hst2 hst3 hu hu0 hA4 hb2 hb3 c0 c1 c2 c3 x1 bz xz d0 dz hL
    go_wp2_with (at_builtin;go_must (refine us_append rfl (.tmp 24) (.tmp 31) rfl _ xs rfl w3.heap.size _ L rfl hus4 kU hu4 hble (by omega) ?_);intro v5 w5 q1 q2 q3)
    have hst5:=hst4.app q2 q1
    go_roundw
    case rel=>exact ⟨k+1,by omega,by go_num,_,hst5,by rw [List.map_append,hxs,HTK.out];rfl⟩
    case measure=>simp [intOf];omega
   | false =>
    rw [nds_not hcb] at htk
    rw [hcb] at HCM
    have HTK:=Lib.hid htk
    clear htk hcb
    go_wp2_with fail
    refine (HCM.out _).mono ?_
    rintro e w3 ⟨rfl,hb2⟩
    have hst3:=hst.keep hb2
    have hA4:=alloc_below w3 (.cells #[.slice none 0 0] 40)
    have kU:=Bk.new w3 40 #[.slice none 0 0]
    have hst4:=hst3.keep hA4
    have hu4:Rw (w3.alloc (.cells #[.slice none 0 0] 40)) 0 (.slice none 0 0) []:=World.ownsRow_nil _ _ _ _
    have hble:=hst4.bel.size
    have hus4:=hst4.us
    clear hst hst3 hA4 hb2 c0 c1 c2 c3 x1 bz xz d0 dz
    go_wp2_with (at_builtin;go_must (refine us_append rfl (.tmp 33) (.tmp 34) rfl _ xs rfl w3.heap.size _ [] rfl hus4 kU hu4 hble (by omega) ?_);intro v5 w5 q1 q2 q3)
    have hst5:=hst4.app q2 q1
    go_roundw
    case rel=>exact ⟨k+1,by omega,by go_num,_,hst5,by rw [List.map_append,hxs,HTK.out];rfl⟩
    case measure=>simp [intOf];omega
  ·obtain rfl:k=(listL gs os).length:=by omega
   obtain ⟨x0,xf,xz⟩:=hst.kc.cell
   have x1:=x0 1
   have x2:=x0 2
   have x0:=x0 0
   simp only [List.getElem?_toArray,List.getElem?_cons_zero,List.getElem?_cons_succ] at x0 x1 x2
   have HSZ:=Lib.hid hst.bel.size
   go_wp2_with fail
   refine (HDL.out wr hst.bel).mono ?_
   rintro e w2 ⟨d,rfl,hd,hb2⟩
   obtain ⟨da,dc,rfl⟩:=hd.slice
   have hst2:=hst.keep hb2
   have hd2:Rw w2 0 (.slice da (dlyL gs).length dc) (dlyL gs):=hd.mono (Nat.zero_le _)
   clear hst hd hb2 x0 x1 x2 xf xz
   go_wp2_with fail
   go_loopw [5,40] (fun rv q wr=>∃ k2:Nat,k2≤(dlyL gs).length∧q=.int .i64 k2∧Rw wr 0 (.slice da (dlyL gs).length dc) (dlyL gs)∧∃ xs,UcS w #[.int .i64 inp,.slice (some ⟨b,o,none⟩) gs.length cap,.slice oa os.length oc] wr rv xs∧xs.map Prod.fst=U.take ((listL gs os).length+k2)) (fun _ q _=>(dlyL gs).length - (intOf q).toNat)
   case atStart=>exact ⟨0,Nat.zero_le _,rfl,hd2,xs,hst2,hxs⟩
   case round =>
    clear hst2 hd2 hxs hxl
    obtain ⟨k2,hk2,rfl,hd,xs2,hst,hxs⟩:=hrel
    obtain ⟨ra,rc,rfl⟩:=hst.us.slice
    have hxl:=us_len (w:=w) (wr:=wr) (v:=.nilIface) hxs
    by_cases hlk2:k2<(dlyL gs).length
    ·obtain ⟨db,do_,rfl,d0⟩:=ints_cell hd.at hlk2
     have hdr:=dly_mem (List.getElem_mem hlk2)
     have hus:=uses_dl gs os hlk2
     obtain ⟨i,hii⟩:∃ i:Nat,(dlyL gs)[k2]=i:=⟨((dlyL gs)[k2]).toNat,by omega⟩
     rw [hii] at d0 hdr hus
     have hi:i<gs.length:=by omega
     rw [gNo_get hi,HU.out] at hus
     have htk:U.take ((listL gs os).length+(k2+1))=U.take ((listL gs os).length+k2) ++ [[(gs[i]).a]]:=by
      have hkU:(listL gs os).length+k2<U.length:=by rw [← HU.out,HUL.out];omega
      rw [← Nat.add_assoc,List.take_succ_eq_append_getElem hkU]
      rw [List.getD_eq_getElem?_getD,List.getElem?_eq_getElem hkU] at hus
      congr 2
     have hgt:=HAT.out i hi
     have c1:=(hgt.keep hst.bel).2.1
     generalize (gs[i]).a=z at c1 htk
     have HTK:=Lib.hid htk
     have dz:=cell_lt d0
     have bz:=cell_lt c1
     have x1:=hst.kc.cell.1 1
     have xz:=hst.kc.lt
     simp only [List.getElem?_toArray,List.getElem?_cons_zero,List.getElem?_cons_succ] at x1
     have hA3:=alloc_below wr (.cells #[.int .i64 z] 3)
     have hA4:=alloc_below (wr.alloc (.cells #[.int .i64 z] 3)) (.cells #[.slice (some ⟨wr.heap.size,0,none⟩) 1 1] 40)
     have hz1:=(cg_one wr 0 z (Nat.zero_le _)).keep hA4
     have kU:=Bk.new (wr.alloc (.cells #[.int .i64 z] 3)) 40 #[.slice (some ⟨wr.heap.size,0,none⟩) 1 1]
     rw [World.size_alloc] at kU
     have hst4:=(hst.keep hA3).keep hA4
     have hd4:=(hd.keep hA3).keep hA4
     have hble:=hst4.bel.size
     have hus4:=hst4.us
     have HST4:=Lib.hid (And.intro hst4 hd4)
     clear hst hd hst4 hd4 hA3 hA4 htk hii hgt hdr hus
     go_wp2_with (at_builtin;go_must (refine us_append rfl (.tmp 44) (.tmp 52) rfl _ xs2 rfl (wr.heap.size+1) _ [z] rfl hus4 kU hz1 hble (by omega) ?_);intro v5 w5 q1 q2 q3)
     have hst5:=HST4.out.1.app q2 q1
     have hd5:=HST4.out.1.rw q2 HST4.out.2
     go_roundw
     case rel=>exact ⟨k2+1,by omega,by go_num,hd5,_,hst5,by rw [List.map_append,hxs,HTK.out];rfl⟩
     case measure=>simp [intOf];omega
    ·obtain rfl:k2=(dlyL gs).length:=by omega
     clear hd
     have x2:=hst.kc.cell.1 2
     have xz:=hst.kc.lt
     simp only [List.getElem?_toArray,List.getElem?_cons_zero,List.getElem?_cons_succ] at x2
     generalize hww:wr=wo at *
     clear hww
     go_wp2_with fail
     go_loopw [5,58] (fun rv q wr=>∃ k2:Nat,k2≤os.length∧q=.int .i64 k2∧∃ xs,UcS w #[.int .i64 inp,.slice (some ⟨b,o,none⟩) gs.length cap,.slice oa os.length oc] wr rv xs∧xs.map Prod.fst=U.take ((listL gs os).length+((dlyL gs).length+k2))) (fun _ q _=>os.length - (intOf q).toNat)
     case atStart=>exact ⟨0,Nat.zero_le _,rfl,_,hst,hxs⟩
     case round =>
      clear hst x2 xz hxs hxl
      obtain ⟨k2,hk2,rfl,xs3,hst,hxs⟩:=hrel
      obtain ⟨ra,rc,rfl⟩:=hst.us.slice
      have hxl:=us_len (w:=w) (wr:=wr) (v:=.nilIface) hxs
      by_cases hlk2:k2<os.length
      ·obtain ⟨db,do_,rfl,d0⟩:=ints_cell (HO.out.keep hst.bel) hlk2
       have hus:=uses_os gs os hlk2
       rw [HU.out] at hus
       have htk:U.take ((listL gs os).length+((dlyL gs).length+(k2+1)))=U.take ((listL gs os).length+((dlyL gs).length+k2)) ++ [[os[k2]]]:=by
        have hkU:(listL gs os).length+((dlyL gs).length+k2)<U.length:=by rw [← HU.out,HUL.out];omega
        rw [show (listL gs os).length+((dlyL gs).length+(k2+1))=(listL gs os).length+((dlyL gs).length+k2)+1 by omega,List.take_succ_eq_append_getElem hkU]
        rw [List.getD_eq_getElem?_getD,List.getElem?_eq_getElem hkU] at hus
        congr 2
       generalize os[k2]=z at d0 htk
       have HTK:=Lib.hid htk
       have dz:=cell_lt d0
       have hA3:=alloc_below wr (.cells #[.int .i64 z] 3)
       have hA4:=alloc_below (wr.alloc (.cells #[.int .i64 z] 3)) (.cells #[.slice (some ⟨wr.heap.size,0,none⟩) 1 1] 40)
       have hz1:=(cg_one wr 0 z (Nat.zero_le _)).keep hA4
       have kU:=Bk.new (wr.alloc (.cells #[.int .i64 z] 3)) 40 #[.slice (some ⟨wr.heap.size,0,none⟩) 1 1]
       rw [World.size_alloc] at kU
       have hst4:=(hst.keep hA3).keep hA4
       have hble:=hst4.bel.size
       have hus4:=hst4.us
       have HST4:=Lib.hid hst4
       clear hst hst4 hA3 hA4 htk hus
       go_wp2_with (at_builtin;go_must (refine us_append rfl (.tmp 62) (.tmp 65) rfl _ xs3 rfl (wr.heap.size+1) _ [z] rfl hus4 kU hz1 hble (by omega) ?_);intro v5 w5 q1 q2 q3)
       have hst5:=HST4.out.app q2 q1
       go_roundw
       case rel=>exact ⟨k2+1,by omega,by go_num,_,hst5,by rw [List.map_append,hxs,HTK.out];rfl⟩
       case measure=>simp [intOf];omega
      ·obtain rfl:k2=os.length:=by omega
       have hfin:xs3.map Prod.fst=U:=by
        rw [hxs,List.take_of_length_le]
        rw [← HU.out,HUL.out];omega
       have hres:=hst.us.at
       rw [hfin] at hres
       have hbel:=hst.bel
       have HR:=Lib.hid hres
       clear hst hres hxs hfin
       go_wp2
       go_ret
       exact ⟨_,rfl,HR.out,hbel⟩
end Go.Proofs.YtbljmfcifljkaaaGreatDoor
/-
  Whether a value is used later. Own work.
-/
namespace Go.Proofs.YtbljmfcifljkaaaGreatDoor
open Go.RowKit
set_option maxRecDepth 100000
set_option maxHeartbeats 2000000
theorem cmLater_any (v:Value) (U:List (List Int)) (t:Nat) (z:Int) (w:World) (hv:LsAt w v U) (hn:U.length≤1000) (ht:t<U.length) (hl:∀ u ∈ U,u.length≤1000) :
  Calls Tryz.prog 208 #[v,.int .i64 t,.int .i64 z] w fun e w'=>e=.returned (.bool (later U t z))∧w=w':=by
 obtain ⟨a,cap,rfl,hc,hat⟩:=hv
 obtain ⟨b,o,rfl,_⟩:=hat 0 (by omega)
 have hat:∀ i,∀ hi:i<U.length,∃ u,w.cell? ⟨b,o+i,none⟩=some u∧IntsAt w u U[i]:=fun i hi=>by
  obtain ⟨b2,o2,e,_,u,h1,h2⟩:=hat i hi
  simp only [Option.some.injEq,Addr.mk.injEq,and_true] at e
  obtain ⟨rfl,rfl⟩:=e
  rw [Nat.mul_one] at h1
  exact ⟨u,h1,h2⟩
 have HAT:=Lib.hid hat
 clear hat
 have w1:IntKind.i64.wrap ((t:Int)+1)=((t+1:Nat):Int):=IntWalk.i64_in _ (by omega)
 have ht1:t+1≤U.length:=by omega
 have ht2:(t:Int)+1≤(U.length:Int):=by omega
 have hc2:(U.length:Int)≤(cap:Int):=by omega
 by_cases hcap:cap=t+1
 ·have hUl:U.length=t+1:=by omega
  have HF:Hid (later U t z=false):=Lib.hid (by unfold later;rw [← hUl,List.drop_length];rfl)
  subst hcap
  have hz:U.length - (t+1)=0:=by omega
  clear hl
  go_enter Tryz.func208,Tryz.ntmps208
  go_wp2_with fail
  go_loopw [14] (fun i wr=>i=.int .i64 0∧wr=w) (fun i _=>0)
  case atStart=>exact ⟨rfl,rfl⟩
  case round =>
   obtain ⟨rfl,rfl⟩:=hrel
   go_wp2
   go_ret
   exact ⟨by rw [HF.out];rfl,by first|rfl|trivial⟩
 ·go_enter Tryz.func208,Tryz.ntmps208
  go_wp2_with fail
  go_loopw [14] (fun i wr=>∃ k:Nat,k≤U.length - (t+1)∧i=.int .i64 k∧wr=w∧∀ j,∀ h:t+1+j<U.length,j<k → decide (z ∈ U[t+1+j]'h)=false) (fun i _=>U.length - (t+1) - (intOf i).toNat)
  case atStart=>exact ⟨0,Nat.zero_le _,rfl,rfl,fun j h1 h2=>by omega⟩
  case round =>
   obtain ⟨k,hk,rfl,rfl,hall⟩:=hrel
   have HALL:=Lib.hid hall
   clear hall
   by_cases hlt:k<U.length - (t+1)
   ·have hj:t+1+k<U.length:=by omega
    obtain ⟨u,c0,hu⟩:=HAT.out (t+1+k) hj
    rw [show o+(t+1+k)=o+(t+1)+k by omega] at c0
    have hul:=hl _ (List.getElem_mem hj)
    have hmem:=List.getElem_mem hj
    have hcall:=l1Has_any u U[t+1+k] z wr hu (by omega)
    cases hb:decide (z ∈ U[t+1+k]) with
    | true =>
     have HF:Hid (later U t z=true):=Lib.hid (by
      unfold later
      rw [List.any_eq_true]
      exact ⟨_,List.mem_iff_getElem.2 ⟨k,by rw [List.length_drop];omega,List.getElem_drop⟩,hb⟩)
     rw [hb] at hcall
     have HC:=Lib.hid hcall
     clear hb hcall hu hul hmem hl
     go_wp2_with (go_at_call 269;refine HC.out.mono ?_;rintro e' w2 ⟨rfl,rfl⟩)
     go_ret
     exact ⟨by rw [HF.out];rfl,by first|rfl|trivial⟩
    | false =>
     have HB:=Lib.hid hb
     rw [hb] at hcall
     have HC:=Lib.hid hcall
     clear hb hcall hu hul hmem hl
     go_wp2_with (go_at_call 269;refine HC.out.mono ?_;rintro e' w2 ⟨rfl,rfl⟩)
     go_roundw
     case rel=>exact ⟨k+1,by omega,by go_num,by first|rfl|trivial,fun j h1 h2=>by
      rcases Nat.lt_or_ge j k with h|h
      ·exact HALL.out j h1 h
      ·obtain rfl:j=k:=by omega
       exact HB.out⟩
     case measure=>simp [intOf];omega
   ·obtain rfl:k=U.length - (t+1):=by omega
    have HF:Hid (later U t z=false):=Lib.hid (by
     unfold later
     rw [List.any_eq_false]
     intro l hl2
     obtain ⟨j,hj,rfl⟩:=List.mem_iff_getElem.1 hl2
     rw [List.length_drop] at hj
     rw [List.getElem_drop]
     have:=HALL.out j (by omega) hj
     rw [this];simp)
    clear hl
    go_wp2
    go_ret
    exact ⟨by rw [HF.out];rfl,by first|rfl|trivial⟩
end Go.Proofs.YtbljmfcifljkaaaGreatDoor
