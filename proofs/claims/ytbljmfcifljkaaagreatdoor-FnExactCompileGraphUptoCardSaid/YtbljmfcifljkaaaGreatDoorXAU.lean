/-
  Whether edges lead back only by delays: both codes. Own work.
-/
import Derived.Test.YtbljmfcifljkaaaGreatDoorXAT
set_option linter.all false
set_option maxRecDepth 100000
set_option maxHeartbeats 8000000
namespace Go.Proofs.YtbljmfcifljkaaaGreatDoor
open Go.RowKit
set_option maxRecDepth 100000
set_option maxHeartbeats 2000000
theorem ndE_in (E:List EdI):∀ ks ∈ ndE E,ks.length≤E.length∧∀ k ∈ ks,0≤k∧k<E.length:=by
 intro ks hks
 obtain ⟨e,_,rfl⟩:=List.mem_map.1 hks
 refine ⟨ndN_len E e E.length,fun k hk=>?_⟩
 obtain ⟨i,hi,rfl⟩:=List.mem_map.1 hk
 have:=List.mem_range.1 (List.mem_filter.1 hi).1
 omega
theorem edgeOrder_any (W:Int) (ve vi vo:Value) (E:List EdI) (w:World) (hg:EdsAt w ve E) (hl:E.length≤100) (hok:∀ e ∈ E,e.ins.length≤1000∧e.outs.length≤1000) :
  Calls Tryz.prog 210 #[.agg #[.int .i64 W,ve,vi,vo]] w (RwP (ordE E) w):=by
 have hel:(ndE E).length=E.length:=by simp [ndE]
 have:=edgeOrder_of W ve vi vo (ndE E) w (by omega) (fun ks hks=>by
  have:=ndE_in E ks hks
  rw [hel]
  exact ⟨by omega,this.2⟩) (gneeds_any W ve vi vo E _ (SlAt.mono hg fun _ _ _ ⟨hi,r⟩=>⟨hi,r.keep (alloc_below _ _)⟩) hl hok)
 rw [hel] at this
 exact this
def cutE (E:List EdI):List EdI:=E.filter fun e=>e.kind != 8
theorem cut_yes {E:List EdI} {k:Nat} (hk:k<E.length) (h:¬ E[k].kind=8):cutE (E.take (k+1))=cutE (E.take k) ++ [E[k]]:=by
 unfold cutE
 rw [List.take_succ_eq_append_getElem hk,List.filter_append,List.filter_cons_of_pos (by simp [h])]
 rfl
theorem cut_no {E:List EdI} {k:Nat} (hk:k<E.length) (h:E[k].kind=8):cutE (E.take (k+1))=cutE (E.take k):=by
 unfold cutE
 rw [List.take_succ_eq_append_getElem hk,List.filter_append,List.filter_cons_of_neg (by simp [h])]
 simp
structure CutS (w:World) (E:List EdI) (cs:Array Value) (W:Int) (vi vo:Value) (k:Nat) (wr:World) (ev:Value) (xs:List EgV):Prop where
 kg:Bk wr w.heap.size 53 cs
 kc:Bk wr (w.heap.size+1) 53 #[.int .i64 W,ev,vi,vo]
 row:EvR w wr w.heap.size ev xs
 eq:xs.map Prod.fst=cutE (E.take k)
 bel:Below w.heap.size w wr
theorem CutS.keep {w:World} {E:List EdI} {cs:Array Value} {W:Int} {vi vo:Value} {k:Nat} {wr w':World} {ev:Value} {xs:List EgV} (h:CutS w E cs W vi vo k wr ev xs) (hb:Below wr.heap.size wr w'):CutS w E cs W vi vo k w' ev xs :=
 ⟨h.kg.keep hb,h.kc.keep hb,h.row.keep hb,h.eq,h.bel.trans (hb.mono h.bel.size)⟩
theorem CutS.len {w:World} {E:List EdI} {cs:Array Value} {W:Int} {vi vo:Value} {k:Nat} {wr:World} {ev:Value} {xs:List EgV} (h:CutS w E cs W vi vo k wr ev xs):xs.length≤E.length:=by
 have h1:=congrArg List.length h.eq
 rw [List.length_map] at h1
 have h2:=List.length_filter_le (fun e:EdI=>e.kind != 8) (E.take k)
 rw [List.length_take] at h2
 unfold cutE at h1
 omega
theorem leadsBack_any (W:Int) (ve vi vo:Value) (E:List EdI) (w:World) (hg:EdsAt w ve E) (hl:E.length≤100) (hok:∀ e ∈ E,e.ins.length≤1000∧e.outs.length≤1000) :
  Calls Tryz.prog 142 #[.agg #[.int .i64 W,ve,vi,vo]] w (FlP (acyB (cutE E)) w):=by
 obtain ⟨a,cap,rfl,hc,hat⟩:=hg
 have hA:=alloc_below w (.cells #[.int .i64 W,.slice a E.length cap,vi,vo] 53)
 have hA2:=alloc_below (w.alloc (.cells #[.int .i64 W,.slice a E.length cap,vi,vo] 53)) (.cells #[.int .i64 W,.slice none 0 0,.slice none 0 0,.slice none 0 0] 53)
 have kC:=(Bk.new w 53 #[.int .i64 W,.slice a E.length cap,vi,vo]).keep hA2
 have kK:=Bk.new (w.alloc (.cells #[.int .i64 W,.slice a E.length cap,vi,vo] 53)) 53 #[.int .i64 W,.slice none 0 0,.slice none 0 0,.slice none 0 0]
 rw [World.size_alloc] at kK
 have hst:CutS w E #[.int .i64 W,.slice a E.length cap,vi,vo] W (.slice none 0 0) (.slice none 0 0) 0 ((w.alloc (.cells #[.int .i64 W,.slice a E.length cap,vi,vo] 53)).alloc (.cells #[.int .i64 W,.slice none 0 0,.slice none 0 0,.slice none 0 0] 53)) (.slice none 0 0) []:=⟨kC,kK,EvR.nil _ _ _,rfl,hA.trans (hA2.mono hA.size)⟩
 clear hA hA2 kC kK
 go_enter Tryz.func142,Tryz.ntmps142
 go_wp2_with fail
 generalize ((w.alloc (.cells #[.int .i64 W,.slice a E.length cap,vi,vo] 53)).alloc (.cells #[.int .i64 W,.slice none 0 0,.slice none 0 0,.slice none 0 0] 53))=u0 at *
 go_loopw [12] (fun i wr=>∃ k:Nat,k≤E.length∧i=.int .i64 k∧∃ ev xs,CutS w E #[.int .i64 W,.slice a E.length cap,vi,vo] W (.slice none 0 0) (.slice none 0 0) k wr ev xs) (fun i _=>E.length - (intOf i).toNat)
 case atStart=>exact ⟨0,Nat.zero_le _,rfl,_,_,hst⟩
 case round =>
  clear hst
  obtain ⟨k,hk,rfl,ev,xs,hst⟩:=hrel
  by_cases hlk:k<E.length
  ·obtain ⟨b,o,rfl,_,hed⟩:=hat k hlk
   have hyes:=@cut_yes E k hlk
   have hno:=@cut_no E k hlk
   have hxl:=hst.len
   obtain ⟨e,hee⟩:∃ e,E[k]=e:=⟨_,rfl⟩
   rw [hee] at hed hyes hno
   obtain ⟨c0,c1,wi,wo,c2,c3,hei,heo⟩:=hed
   have hok0:EvOk w (e,wi,wo):=⟨hei,heo⟩
   obtain ⟨ia,ic,rfl⟩:=hei.slice
   obtain ⟨oa,oc,rfl⟩:=heo.slice
   replace c0:=cell_keep hst.bel c0
   replace c1:=cell_keep hst.bel c1
   replace c2:=cell_keep hst.bel c2
   replace c3:=cell_keep hst.bel c3
   have bz:=cell_lt c0
   have hA2:=alloc_below wr (.cells #[.int .i64 e.kind,.int .i64 e.value,.slice ia e.ins.length ic,.slice oa e.outs.length oc] 189)
   have hst2:=hst.keep hA2
   by_cases h8:e.kind=8
   ·have HSN:=Lib.hid (hno h8)
    have hbq:(e.kind != 8)=false:=by simp [h8]
    clear hst hyes hno hat hee hei heo hok0 h8
    go_wp2
    go_roundw
    case rel=>exact ⟨k+1,by omega,by go_num,_,_,hst2.kg,hst2.kc,hst2.row,by rw [HSN.out];exact hst2.eq,hst2.bel⟩
    case measure=>simp [intOf];omega
   ·have HSN:=Lib.hid (hyes h8)
    have hbq:(e.kind != 8)=true:=by simp [h8]
    obtain ⟨ra,rc,rfl⟩:=hst.row.slice
    have hA3:=alloc_below (wr.alloc (.cells #[.int .i64 e.kind,.int .i64 e.value,.slice ia e.ins.length ic,.slice oa e.outs.length oc] 189)) (.cells #[.int .i64 e.kind,.int .i64 e.value,.slice ia e.ins.length ic,.slice oa e.outs.length oc] 189)
    have hsrc:SrcAt ((wr.alloc (.cells #[.int .i64 e.kind,.int .i64 e.value,.slice ia e.ins.length ic,.slice oa e.outs.length oc] 189)).alloc (.cells #[.int .i64 e.kind,.int .i64 e.value,.slice ia e.ins.length ic,.slice oa e.outs.length oc] 189)) 4 (.slice (some ⟨wr.heap.size+1,0,none⟩) 1 1) 1 (evCells (e,.slice ia e.ins.length ic,.slice oa e.outs.length oc)):=by
     have:=ev_one (wr.alloc (.cells #[.int .i64 e.kind,.int .i64 e.value,.slice ia e.ins.length ic,.slice oa e.outs.length oc] 189)) (e,.slice ia e.ins.length ic,.slice oa e.outs.length oc) (by rintro u (rfl|rfl) <;> rfl)
     rw [World.size_alloc] at this
     exact this
    have hst3:=hst2.keep hA3
    have HEQ:=Lib.hid hst3.eq
    have hb3:=hst3.bel
    have hrow3:=hst3.row
    have hkc3:=hst3.kc
    have hkg3:=hst3.kg
    have x1:=hst2.kc.cell.1 1
    have xz:=hst2.kc.lt
    simp only [List.getElem?_toArray,List.getElem?_cons_zero,List.getElem?_cons_succ] at x1
    have hgne:=And.intro (row_blk_ne hrow3.row hkg3 (by decide)) (row_blk_ne hrow3.row hkc3 (by decide))
    have hgge:∀ j,(Value.slice ra xs.length rc).ownBlock=some j → w.heap.size≤j:=fun j hj=>(World.ownsRow.lt hrow3.row j hj).1
    have HX:=Lib.hid (And.intro hgne hgge)
    have hwle:=hb3.size
    have HL5:=Lib.hid (show (xs ++ [(e,Value.slice ia e.ins.length ic,Value.slice oa e.outs.length oc)]).length=xs.length+1 by simp)
    clear hst hst2 hst3 hyes hno hat hee hei heo hA2 hA3 hgne hgge h8
    go_wp2_with (at_builtin;go_must (refine ev_append hsrc hok0 rfl (.tmp 20) (.tmp 22) rfl w.heap.size _ xs rfl rfl hrow3 hwle (by omega) ?_);intro v5 w5 q1 q2 q3;obtain ⟨va,vc,rfl⟩:=q1.slice;rw [HL5.out] at q1;have kc5:=hkc3.grown q2 HX.out.1.2;have f5:=kc5.cell.2.1 1;have y5:=kc5.cell.1 1;simp only [List.getElem?_toArray,List.getElem?_cons_zero,List.getElem?_cons_succ] at y5;have z5:=kc5.lt)
    have kg5:=hkg3.grown q2 HX.out.1.1
    have hb5:Below w.heap.size w w5:=hb3.grown q2 (by omega) HX.out.2
    have kc6:=kc5.set 1 (.slice va (xs.length+1) vc)
    have kg6:=kg5.other ⟨w.heap.size+1,1,none⟩ (.slice va (xs.length+1) vc) (by simp)
    have hr6:=owns_other q1.row ⟨w.heap.size+1,1,none⟩ (.slice va (xs.length+1) vc) (row_blk_ne q1.row kc5 (by decide))
    have hb6:=hb5.setCell (show w.heap.size≤(⟨w.heap.size+1,1,none⟩:Addr).block by simp) (.slice va (xs.length+1) vc)
    go_roundw
    case rel=>exact ⟨k+1,by omega,by go_num,_,_,kg6,by simpa using kc6,⟨hr6,q1.els⟩,by rw [List.map_append,HEQ.out,HSN.out];rfl,hb6⟩
    case measure=>simp [intOf];omega
  ·obtain rfl:k=E.length:=by omega
   have heq:=hst.eq
   rw [List.take_length] at heq
   have hok2:∀ e ∈ cutE E,e.ins.length≤1000∧e.outs.length≤1000:=fun e he=>hok e (List.mem_filter.1 he).1
   have hxl:=hst.len
   have hev:∀ U,Below wr.heap.size wr U → EdsAt U ev (cutE E):=fun U hb=>by
    have h1:=hst.row.at hst.bel
    rw [heq] at h1
    exact SlAt.mono h1 fun _ _ _ ⟨hi,r⟩=>⟨hi,r.keep hb⟩
   have hFl:(cutE E).length=xs.length:=by rw [← heq,List.length_map]
   have HO:=Lib.hid (fun (U:World) (hb:Below wr.heap.size wr U)=>edgeOrder_any W ev (.slice none 0 0) (.slice none 0 0) (cutE E) U (hev U hb) (by omega) hok2)
   obtain ⟨ra,rc,rfl⟩:=hst.row.slice
   have hlen:=ordE_len (cutE E)
   have HB:Hid (acyB (cutE E)=decide ((ordE (cutE E)).length=(cutE E).length)):=Lib.hid rfl
   rw [hFl] at hlen HB
   generalize ordE (cutE E)=ol at HO hlen HB
   obtain ⟨x0,xf,xz⟩:=hst.kc.cell
   have x1:=x0 1
   have x2:=x0 2
   have x3:=x0 3
   have x0:=x0 0
   simp only [List.getElem?_toArray,List.getElem?_cons_zero,List.getElem?_cons_succ] at x0 x1 x2 x3
   have hbel:=hst.bel
   clear hst hat heq hok2 hev hFl
   go_wp2_with fail
   have upW:∀ {w':World},Exc NoT wr.drew w' → Below wr.heap.size wr w':=fun h=>(Below.refl wr.heap.size wr).drew.trans (h.toBelow.mono (by simp))
   refine region_acts (C:=Exc (NoT) _) 6 [0,1,2,3,4,5,6,7] (by kernel_rfl) (by kernel_rfl) (Exc.grows _ _) (Exc.refl _ _) ?_
   iterate 1 (apply x_st rfl rfl rfl;(focus intro u hc' hf';go_simp <;> rfl);intro K hK;go_simp;apply hK;clear hK K)
   refine x_call rfl rfl rfl (Exc.grows _ _) (Exc.refl _ _) 210 (fun K hK=>?_);apply Exists.intro;refine ⟨fun w' hw'=>?_,fun w' hw' hbw=>?_⟩;(focus go_simp;rfl);refine (HO.out _ (upW hw')).mono ?_;rintro e w1 ⟨u,rfl,hu,hb1⟩;refine ⟨_,rfl,hb1,fun hx=>?_⟩;go_simp;apply hK;clear hK K
   obtain ⟨ua,uc,rfl⟩:=hu.slice
   iterate 6 (apply x_st rfl rfl rfl;(focus intro u hc' hf';go_simp <;> rfl);intro K hK;go_simp;apply hK;clear hK K)
   refine x_nil ?_
   have hB:=hbel.trans ((upW hx).mono hbel.size)
   go_wp2
   go_ret
   refine ⟨?_,hB⟩
   rw [HB.out]
   show Ending.returned (Value.bool ((ol.length:Int) == (xs.length:Int)))=Ending.returned (Value.bool (decide (ol.length=xs.length)))
   rw [beq_dec]
   congr 2
   simp only [decide_eq_decide]
   omega
theorem crTimed_any (W:Int) (ve vi vo:Value) (E:List EdI) (I O:List Int) (w:World) (hg:EdsAt w ve E) (hi:IntsAt w vi I) (ho:IntsAt w vo O) (hl:E.length≤100) (hok:∀ e ∈ E,e.ins.length≤1000∧e.outs.length≤1000) :
  Calls Tryz.prog 135 #[.agg #[.int .i64 W,ve,vi,vo]] w (FlP (acyB (cutE E)) w):=by
 obtain ⟨a,cap,rfl,hc,hat⟩:=hg
 obtain ⟨pa,pc,rfl⟩:=hi.slice
 obtain ⟨qa,qc,rfl⟩:=ho.slice
 clear hi ho
 have hA:=alloc_below w (.cells #[.int .i64 W,.slice a E.length cap,.slice pa I.length pc,.slice qa O.length qc] 53)
 have hA2:=alloc_below (w.alloc (.cells #[.int .i64 W,.slice a E.length cap,.slice pa I.length pc,.slice qa O.length qc] 53)) (.cells #[.int .i64 W,.slice none 0 0,.slice pa I.length pc,.slice qa O.length qc] 53)
 have kC:=(Bk.new w 53 #[.int .i64 W,.slice a E.length cap,.slice pa I.length pc,.slice qa O.length qc]).keep hA2
 have kK:=Bk.new (w.alloc (.cells #[.int .i64 W,.slice a E.length cap,.slice pa I.length pc,.slice qa O.length qc] 53)) 53 #[.int .i64 W,.slice none 0 0,.slice pa I.length pc,.slice qa O.length qc]
 rw [World.size_alloc] at kK
 have hst:CutS w E #[.int .i64 W,.slice a E.length cap,.slice pa I.length pc,.slice qa O.length qc] W (.slice pa I.length pc) (.slice qa O.length qc) 0 ((w.alloc (.cells #[.int .i64 W,.slice a E.length cap,.slice pa I.length pc,.slice qa O.length qc] 53)).alloc (.cells #[.int .i64 W,.slice none 0 0,.slice pa I.length pc,.slice qa O.length qc] 53)) (.slice none 0 0) []:=⟨kC,kK,EvR.nil _ _ _,rfl,hA.trans (hA2.mono hA.size)⟩
 clear hA hA2 kC kK
 go_enter Tryz.func135,Tryz.ntmps135
 go_wp2_with fail
 generalize ((w.alloc (.cells #[.int .i64 W,.slice a E.length cap,.slice pa I.length pc,.slice qa O.length qc] 53)).alloc (.cells #[.int .i64 W,.slice none 0 0,.slice pa I.length pc,.slice qa O.length qc] 53))=u0 at *
 go_loopw [16] (fun i wr=>∃ k:Nat,k≤E.length∧i=.int .i64 k∧∃ ev xs,CutS w E #[.int .i64 W,.slice a E.length cap,.slice pa I.length pc,.slice qa O.length qc] W (.slice pa I.length pc) (.slice qa O.length qc) k wr ev xs) (fun i _=>E.length - (intOf i).toNat)
 case atStart=>exact ⟨0,Nat.zero_le _,rfl,_,_,hst⟩
 case round =>
  clear hst
  obtain ⟨k,hk,rfl,ev,xs,hst⟩:=hrel
  by_cases hlk:k<E.length
  ·obtain ⟨b,o,rfl,_,hed⟩:=hat k hlk
   have hyes:=@cut_yes E k hlk
   have hno:=@cut_no E k hlk
   have hxl:=hst.len
   obtain ⟨e,hee⟩:∃ e,E[k]=e:=⟨_,rfl⟩
   rw [hee] at hed hyes hno
   obtain ⟨c0,c1,wi,wo,c2,c3,hei,heo⟩:=hed
   have hok0:EvOk w (e,wi,wo):=⟨hei,heo⟩
   obtain ⟨ia,ic,rfl⟩:=hei.slice
   obtain ⟨oa,oc,rfl⟩:=heo.slice
   replace c0:=cell_keep hst.bel c0
   replace c1:=cell_keep hst.bel c1
   replace c2:=cell_keep hst.bel c2
   replace c3:=cell_keep hst.bel c3
   have bz:=cell_lt c0
   have hA2:=alloc_below wr (.cells #[.int .i64 e.kind,.int .i64 e.value,.slice ia e.ins.length ic,.slice oa e.outs.length oc] 189)
   have hst2:=hst.keep hA2
   by_cases h8:e.kind=8
   ·have HSN:=Lib.hid (hno h8)
    have hbq:(e.kind != 8)=false:=by simp [h8]
    clear hst hyes hno hat hee hei heo hok0 h8
    go_wp2
    go_roundw
    case rel=>exact ⟨k+1,by omega,by go_num,_,_,hst2.kg,hst2.kc,hst2.row,by rw [HSN.out];exact hst2.eq,hst2.bel⟩
    case measure=>simp [intOf];omega
   ·have HSN:=Lib.hid (hyes h8)
    have hbq:(e.kind != 8)=true:=by simp [h8]
    obtain ⟨ra,rc,rfl⟩:=hst.row.slice
    have hA3:=alloc_below (wr.alloc (.cells #[.int .i64 e.kind,.int .i64 e.value,.slice ia e.ins.length ic,.slice oa e.outs.length oc] 189)) (.cells #[.int .i64 e.kind,.int .i64 e.value,.slice ia e.ins.length ic,.slice oa e.outs.length oc] 189)
    have hsrc:SrcAt ((wr.alloc (.cells #[.int .i64 e.kind,.int .i64 e.value,.slice ia e.ins.length ic,.slice oa e.outs.length oc] 189)).alloc (.cells #[.int .i64 e.kind,.int .i64 e.value,.slice ia e.ins.length ic,.slice oa e.outs.length oc] 189)) 4 (.slice (some ⟨wr.heap.size+1,0,none⟩) 1 1) 1 (evCells (e,.slice ia e.ins.length ic,.slice oa e.outs.length oc)):=by
     have:=ev_one (wr.alloc (.cells #[.int .i64 e.kind,.int .i64 e.value,.slice ia e.ins.length ic,.slice oa e.outs.length oc] 189)) (e,.slice ia e.ins.length ic,.slice oa e.outs.length oc) (by rintro u (rfl|rfl) <;> rfl)
     rw [World.size_alloc] at this
     exact this
    have hst3:=hst2.keep hA3
    have HEQ:=Lib.hid hst3.eq
    have hb3:=hst3.bel
    have hrow3:=hst3.row
    have hkc3:=hst3.kc
    have hkg3:=hst3.kg
    have x1:=hst2.kc.cell.1 1
    have xz:=hst2.kc.lt
    simp only [List.getElem?_toArray,List.getElem?_cons_zero,List.getElem?_cons_succ] at x1
    have hgne:=And.intro (row_blk_ne hrow3.row hkg3 (by decide)) (row_blk_ne hrow3.row hkc3 (by decide))
    have hgge:∀ j,(Value.slice ra xs.length rc).ownBlock=some j → w.heap.size≤j:=fun j hj=>(World.ownsRow.lt hrow3.row j hj).1
    have HX:=Lib.hid (And.intro hgne hgge)
    have hwle:=hb3.size
    have HL5:=Lib.hid (show (xs ++ [(e,Value.slice ia e.ins.length ic,Value.slice oa e.outs.length oc)]).length=xs.length+1 by simp)
    clear hst hst2 hst3 hyes hno hat hee hei heo hA2 hA3 hgne hgge h8
    go_wp2_with (at_builtin;go_must (refine ev_append hsrc hok0 rfl (.tmp 24) (.tmp 26) rfl w.heap.size _ xs rfl rfl hrow3 hwle (by omega) ?_);intro v5 w5 q1 q2 q3;obtain ⟨va,vc,rfl⟩:=q1.slice;rw [HL5.out] at q1;have kc5:=hkc3.grown q2 HX.out.1.2;have f5:=kc5.cell.2.1 1;have y5:=kc5.cell.1 1;simp only [List.getElem?_toArray,List.getElem?_cons_zero,List.getElem?_cons_succ] at y5;have z5:=kc5.lt)
    have kg5:=hkg3.grown q2 HX.out.1.1
    have hb5:Below w.heap.size w w5:=hb3.grown q2 (by omega) HX.out.2
    have kc6:=kc5.set 1 (.slice va (xs.length+1) vc)
    have kg6:=kg5.other ⟨w.heap.size+1,1,none⟩ (.slice va (xs.length+1) vc) (by simp)
    have hr6:=owns_other q1.row ⟨w.heap.size+1,1,none⟩ (.slice va (xs.length+1) vc) (row_blk_ne q1.row kc5 (by decide))
    have hb6:=hb5.setCell (show w.heap.size≤(⟨w.heap.size+1,1,none⟩:Addr).block by simp) (.slice va (xs.length+1) vc)
    go_roundw
    case rel=>exact ⟨k+1,by omega,by go_num,_,_,kg6,by simpa using kc6,⟨hr6,q1.els⟩,by rw [List.map_append,HEQ.out,HSN.out];rfl,hb6⟩
    case measure=>simp [intOf];omega
  ·obtain rfl:k=E.length:=by omega
   have heq:=hst.eq
   rw [List.take_length] at heq
   have hok2:∀ e ∈ cutE E,e.ins.length≤1000∧e.outs.length≤1000:=fun e he=>hok e (List.mem_filter.1 he).1
   have hxl:=hst.len
   have hev:EdsAt wr ev (cutE E):=by
    have h1:=hst.row.at hst.bel
    rwa [heq] at h1
   have hFl:(cutE E).length=xs.length:=by rw [← heq,List.length_map]
   have HO:=Lib.hid (hgAcyclic_any W ev (.slice pa I.length pc) (.slice qa O.length qc) (cutE E) wr hev (by omega) hok2)
   obtain ⟨ra,rc,rfl⟩:=hst.row.slice
   obtain ⟨x0,xf,xz⟩:=hst.kc.cell
   have x1:=x0 1
   have x2:=x0 2
   have x3:=x0 3
   have x0:=x0 0
   simp only [List.getElem?_toArray,List.getElem?_cons_zero,List.getElem?_cons_succ] at x0 x1 x2 x3
   have hbel:=hst.bel
   clear hst hat heq hok2 hev hFl
   go_wp2_with fail
   refine HO.out.mono ?_
   rintro e w2 ⟨rfl,hb2⟩
   go_wp2
   go_ret
   exact ⟨rfl,hbel.trans (hb2.mono hbel.size)⟩
end Go.Proofs.YtbljmfcifljkaaaGreatDoor
