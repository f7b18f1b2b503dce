/-
  The reference's order of edges. Own work.
-/
import Derived.Test.YtbljmfcifljkaaaGreatDoorXAL
set_option linter.all false
set_option maxRecDepth 100000
set_option maxHeartbeats 8000000
namespace Go.Proofs.YtbljmfcifljkaaaGreatDoor
open Go.RowKit
set_option maxRecDepth 100000
set_option maxHeartbeats 2000000
def ed0:EdI:=⟨0,0,[],[]⟩
def ndE1 (E:List EdI) (f:EdI):List Int:=((List.range E.length).filter fun e=>meetB (E.getD e ed0).outs f.ins).map fun i:Nat=>(i:Int)
def ndE (E:List EdI):List (List Int):=E.map (ndE1 E)
def ordE (E:List EdI):List Int:=ordGo (ndE E) (E.length+1) (List.replicate E.length false)
def rdN (E:List EdI) (f:EdI) (dn:List Bool) (j:Nat):Bool:=(List.range j).all fun e=>dn.getD e true || !meetB (E.getD e ed0).outs f.ins
theorem rdN_snoc (E:List EdI) (f:EdI) (dn:List Bool) {j:Nat} (hj:j<E.length) (hd:j<dn.length):rdN E f dn (j+1)=(rdN E f dn j && (dn[j] || !meetB E[j].outs f.ins)):=by
 unfold rdN
 rw [List.range_succ,List.all_append]
 simp [List.getD_eq_getElem?_getD,hj,hd]
theorem rdN_all (E:List EdI) (f:EdI) (dn:List Bool):rdN E f dn E.length=rdyB (ndE1 E f) dn:=by
 unfold rdN rdyB ndE1
 rw [List.all_map,List.all_filter]
 congr 1
 funext e
 simp only [Function.comp_def,Int.toNat_natCast]
 cases meetB (E.getD e ed0).outs f.ins <;> cases dn.getD e true <;> rfl
structure OrS2 (w:World) (nd:List (List Int)) (n:Nat) (d0:List Bool) (t:TypeId) (cs:Array Value) (G:Nat) (wr:World) (rv:Value) (out:List Int) (dn:List Bool):Prop where
 kc:Bk wr w.heap.size t cs
 bk:BlB wr G dn
 row:Rw wr w.heap.size rv out
 bel:Below w.heap.size w wr
 len:dn.length=n
 eq:ordGo nd (n+1) d0=out ++ ordGo nd (n+1 - out.length) dn
 cnt:out.length+dn.count false≤n
theorem OrS2.keep {w:World} {nd:List (List Int)} {n:Nat} {d0:List Bool} {t:TypeId} {cs:Array Value} {G:Nat} {wr w':World} {rv:Value} {out:List Int} {dn:List Bool} (h:OrS2 w nd n d0 t cs G wr rv out dn) (hb:Below wr.heap.size wr w'):OrS2 w nd n d0 t cs G w' rv out dn :=
 ⟨h.kc.keep hb,h.bk.keep hb,owns_keep hb h.row,h.bel.trans (hb.mono h.bel.size),h.len,h.eq,h.cnt⟩
theorem or_next2 {nd:List (List Int)} {n:Nat} {d0:List Bool} {out:List Int} {dn:List Bool} {m:Nat} (hl:dn.length=n) (he:ordGo nd (n+1) d0=out ++ ordGo nd (n+1 - out.length) dn) (hc:out.length+dn.count false≤n)
  (h:nxt nd dn n=some m):ordGo nd (n+1) d0=(out ++ [(m:Int)]) ++ ordGo nd (n+1 - (out ++ [(m:Int)]).length) (dn.set m true)∧(out ++ [(m:Int)]).length+(dn.set m true).count false≤n:=by
 rw [← hl] at h
 have hm:=(nxt_some h).1
 have hd:=nxt_open h hm
 have hcs:=dn_count hm hd
 have e1:(out ++ [(m:Int)]).length=out.length+1:=by simp
 refine ⟨?_,by rw [e1];omega⟩
 rw [he,e1,show n+1 - out.length=(n+1 - (out.length+1))+1 by omega,ordGo_step h,List.append_assoc]
 rfl
theorem hgOrder_any (W:Int) (ve vi vo:Value) (E:List EdI) (w:World) (hg:EdsAt w ve E) (hl:E.length≤100) (hok:∀ e ∈ E,e.ins.length≤1000∧e.outs.length≤1000) :
  Calls Tryz.prog 267 #[.agg #[.int .i64 W,ve,vi,vo]] w (RwP (ordE E) w):=by
 obtain ⟨a,cap,rfl,hc,hat⟩:=hg
 obtain ⟨i0,hi,hz0,hz1,hz2⟩:=info_parts infoBool
 have hA:=alloc_below w (.cells #[.int .i64 W,.slice a E.length cap,vi,vo] 53)
 have kC:=Bk.new w 53 #[.int .i64 W,.slice a E.length cap,vi,vo]
 have hzA:(w.alloc (.cells #[.int .i64 W,.slice a E.length cap,vi,vo] 53)).heap.size=w.heap.size+1:=by simp
 go_enter Tryz.func267,Tryz.ntmps267
 go_wp2_with (at_make;refine wpList_make_full _ rfl _ _ _ rfl (w.heap.size+1) 4 i0 _ 1 Tryz.underlying307 hi hz0 hz1 _ _ _ _ E.length rfl rfl rfl rfl (by rw [hz2];omega) (by unfold maxLen;omega) (by simp) ?_;intro w1 hown hgr;have hb1:Below (w.alloc (.cells #[.int .i64 W,.slice a E.length cap,vi,vo] 53)).heap.size (w.alloc (.cells #[.int .i64 W,.slice a E.length cap,vi,vo] 53)) w1:=(Below.refl _ _).grown hgr (Nat.le_refl _) (by simp);have kC1:=kC.keep hb1)
 have hzm:=made_flat (f:=bCell) false E.length (sz:=1) (by omega) rfl
 have hbk:BlB w1 (w.heap.size+1) (List.replicate E.length false):=by
  rw [hzA] at hown
  refine bls_bk (B:=w.heap.size+1) (n:=E.length) (by simp) ?_
  rw [← hzm]
  exact hown
 have hB1:Below w.heap.size w w1:=hA.trans (hb1.mono hA.size)
 have hst:OrS2 w (ndE E) E.length (List.replicate E.length false) 53 #[.int .i64 W,.slice a E.length cap,vi,vo] (w.heap.size+1) w1 (.slice none 0 0) [] (List.replicate E.length false):=⟨kC1,hbk,World.ownsRow_nil _ _ _ _,hB1,by simp,by simp,by simp⟩
 have HND:Hid (∀ k,∀ h:k<E.length,(ndE E).getD k []=ndE1 E (E[k]'h)):=Lib.hid (fun k h=>by simp [ndE,List.getD_eq_getElem?_getD,h])
 have HRES:Hid (ordE E=ordGo (ndE E) (E.length+1) (List.replicate E.length false)):=Lib.hid rfl
 generalize hD0:List.replicate E.length false=D0 at hst HRES
 generalize ndE E=nd at hst HND HRES
 clear hown hgr hzm hb1 kC kC1 hi hz0 hz1 hz2 hbk hB1 hA hzA hD0
 go_loopw [3] (fun rv wr=>∃ out dn,OrS2 w nd E.length D0 53 #[.int .i64 W,.slice a E.length cap,vi,vo] (w.heap.size+1) wr rv out dn) (fun rv _=>E.length+1 - lnV rv)
 case atStart=>exact ⟨_,_,hst⟩
 case round =>
  clear hst
  obtain ⟨out,dn,hst⟩:=hrel
  obtain ⟨ra,rc,rfl⟩:=hst.row.slice
  obtain ⟨x0,xf,xz⟩:=hst.kc.cell
  have x1:=x0 1
  simp only [List.getElem?_toArray,List.getElem?_cons_zero,List.getElem?_cons_succ] at x1
  go_wp2_with fail
  clear x0 x1 xf xz
  generalize wr=wo at *
  go_loopw [5,16] (fun av i wr=>∃ k:Nat,k≤E.length∧i=.int .i64 k∧av=.int .i64 (nxtV (nxt nd dn k))∧OrS2 w nd E.length D0 53 #[.int .i64 W,.slice a E.length cap,vi,vo] (w.heap.size+1) wr (.slice ra out.length rc) out dn) (fun _ i _=>E.length - (intOf i).toNat)
  case atStart=>exact ⟨0,Nat.zero_le _,rfl,rfl,hst⟩
  case round =>
   clear hst
   obtain ⟨k,hk,rfl,rfl,hst⟩:=hrel
   by_cases hlk:k<E.length
   ·have hnd:=HND.out k hlk
    have hkd:k<dn.length:=by rw [hst.len];exact hlk
    have d0:=hst.bk.get k hkd
    have gz0:=hst.bk.lt
    cases hdk:dn[k] with
    | true =>
     have hf:=frB_done (nd:=nd) hkd hdk
     have HN:=Lib.hid (nxt_no hf)
     rw [hdk] at d0
     have HST:=Lib.hid hst
     clear hst hat hnd hdk hf
     go_wp2
     go_roundw
     case rel=>exact ⟨k+1,by omega,by go_num,by rw [HN.out],HST.out⟩
     case measure=>simp [intOf];omega
    | false =>
     rw [hdk] at d0
     cases hnx:nxt nd dn k with
     | some m =>
      have HN:=Lib.hid (nxt_had hnx)
      have hm0:¬ ((m:Int)<0):=by omega
      have hm1:(0:Int)≤(m:Int):=by omega
      have HST:=Lib.hid hst
      rw [show nxtV (some m)=(m:Int) from rfl]
      clear hst hat hnd hdk hnx
      go_wp2
      go_roundw
      case rel=>exact ⟨k+1,by omega,by go_num,by rw [HN.out];rfl,HST.out⟩
      case measure=>simp [intOf];omega
     | none =>
      have hf:=frB_open (nd:=nd) hkd hdk
      rw [hnd,← rdN_all] at hf
      obtain ⟨b,o,rfl,_,hfe⟩:=hat k hlk
      have hfok:=(hok _ (List.getElem_mem hlk)).1
      obtain ⟨f,hfk⟩:∃ f,E[k]=f:=⟨_,rfl⟩
      rw [hfk] at hfe hfok hf
      have HF:=Lib.hid hf
      have HNX:=Lib.hid hnx
      have HAT:=Lib.hid hat
      rw [show nxtV none=(-1:Int) from rfl]
      obtain ⟨x0,xf,xz⟩:=hst.kc.cell
      have x1:=x0 1
      simp only [List.getElem?_toArray,List.getElem?_cons_zero,List.getElem?_cons_succ] at x1
      clear hat hnd hdk hnx hf hfk
      go_wp2_with fail
      clear x0 x1 xf xz d0 gz0
      generalize wr=wo2 at *
      go_loopw [7,30] (fun rd i wr=>∃ j:Nat,j≤E.length∧i=.int .i64 j∧rd=.bool (rdN E f dn j)∧OrS2 w nd E.length D0 53 #[.int .i64 W,.slice (some ⟨b,o,none⟩) E.length cap,vi,vo] (w.heap.size+1) wr (.slice ra out.length rc) out dn) (fun _ i _=>E.length - (intOf i).toNat)
      case atStart=>exact ⟨0,Nat.zero_le _,rfl,rfl,hst⟩
      case round =>
       clear hst
       obtain ⟨j,hj,rfl,rfl,hst⟩:=hrel
       by_cases hlj:j<E.length
       ·obtain ⟨b4,o4,e4,_,hee⟩:=HAT.out j hlj
        simp only [Option.some.injEq,Addr.mk.injEq,and_true] at e4
        obtain ⟨rfl,rfl⟩:=e4
        have hjd:j<dn.length:=by rw [hst.len];exact hlj
        have hsn:=rdN_snoc E f dn hlj hjd
        have heok:=(hok _ (List.getElem_mem hlj)).2
        obtain ⟨e,hej⟩:∃ e,E[j]=e:=⟨_,rfl⟩
        rw [hej] at hee hsn heok
        obtain ⟨_,_,fvi,fvo,y2,y3,fI,fO⟩:=hfe.keep hst.bel
        obtain ⟨_,_,evi,evo,z2,z3,eI,eO⟩:=hee.keep hst.bel
        have bD:=hst.bk.get j hjd
        have bDz:=hst.bk.lt
        have y2z:=cell_lt y2
        obtain ⟨x0,xf,xz⟩:=hst.kc.cell
        have x1:=x0 1
        simp only [List.getElem?_toArray,List.getElem?_cons_zero,List.getElem?_cons_succ] at x1
        obtain ⟨fa,fc,rfl⟩:=fI.slice
        obtain ⟨ea,ec,rfl⟩:=eO.slice
        have HSN:=Lib.hid hsn
        have HST:=Lib.hid hst
        have HFE:=Lib.hid (And.intro fI eO)
        clear hst hee hsn hej y3 z2 fO eI fI eO xf
        cases hrd:rdN E f dn j with
        | false =>
         rw [hrd] at HSN
         clear hrd
         go_wp2_with fail
         refine region_acts (C:=Exc (NoT) _) 6 [0,1,2,3,4,5,6,7,8,9,10,11,12,13,14,15,16,17,18,19,20,21,22,23] (by kernel_rfl) (by kernel_rfl) (Exc.grows _ _) (Exc.refl _ _) ?_
         iterate 2 (apply x_st rfl rfl rfl;(focus intro u hc' hf';go_simp <;> rfl);intro K hK;go_simp;apply hK;clear hK K)
         iterate 20 (refine x_skip rfl fun K hK=>⟨by first|rfl|(simp [Region.wanted,yielded,go_sem]),?_⟩;go_simp;apply hK;clear hK K)
         iterate 2 (apply x_st rfl rfl rfl;(focus intro u hc' hf';go_simp <;> rfl);intro K hK;go_simp;apply hK;clear hK K)
         refine x_nil ?_
         go_wp2
         go_roundw
         case rel=>exact ⟨j+1,by omega,by go_num,by rw [HSN.out];rfl,HST.out.keep (Below.refl _ _).drew⟩
         case measure=>simp [intOf];omega
        | true =>
         rw [hrd] at HSN
         clear hrd
         cases hdj:dn[j] with
         | true =>
          rw [hdj] at bD HSN
          clear hdj
          go_wp2_with fail
          refine region_acts (C:=Exc (NoT) _) 6 [0,1,2,3,4,5,6,7,8,9,10,11,12,13,14,15,16,17,18,19,20,21,22,23] (by kernel_rfl) (by kernel_rfl) (Exc.grows _ _) (Exc.refl _ _) ?_
          iterate 2 (apply x_st rfl rfl rfl;(focus intro u hc' hf';go_simp <;> rfl);intro K hK;go_simp;apply hK;clear hK K)
          iterate 5 (apply x_sg rfl rfl (by first|rfl|(simp [Region.wanted,yielded,go_sem]));(focus intro u hc' hf';go_simp <;> rfl);intro K hK;go_simp;apply hK;clear hK K)
          iterate 14 (refine x_skip rfl fun K hK=>⟨by first|rfl|(simp [Region.wanted,yielded,go_sem]),?_⟩;go_simp;apply hK;clear hK K)
          iterate 1 (apply x_sg rfl rfl (by first|rfl|(simp [Region.wanted,yielded,go_sem]));(focus intro u hc' hf';go_simp <;> rfl);intro K hK;go_simp;apply hK;clear hK K)
          iterate 2 (apply x_st rfl rfl rfl;(focus intro u hc' hf';go_simp <;> rfl);intro K hK;go_simp;apply hK;clear hK K)
          refine x_nil ?_
          go_wp2
          go_roundw
          case rel=>exact ⟨j+1,by omega,by go_num,by rw [HSN.out];rfl,HST.out.keep (Below.refl _ _).drew⟩
          case measure=>simp [intOf];omega
         | false =>
          rw [hdj] at bD HSN
          clear hdj
          go_wp2_with fail
          have upW:∀ {w':World},Exc NoT wr.drew w' → Below wr.heap.size wr w':=fun h=>(Below.refl wr.heap.size wr).drew.trans (h.toBelow.mono (by simp))
          refine region_acts (C:=Exc (NoT) _) 6 [0,1,2,3,4,5,6,7,8,9,10,11,12,13,14,15,16,17,18,19,20,21,22,23] (by kernel_rfl) (by kernel_rfl) (Exc.grows _ _) (Exc.refl _ _) ?_
          iterate 2 (apply x_st rfl rfl rfl;(focus intro u hc' hf';go_simp <;> rfl);intro K hK;go_simp;apply hK;clear hK K)
          iterate 5 (apply x_sg rfl rfl (by first|rfl|(simp [Region.wanted,yielded,go_sem]));(focus intro u hc' hf';go_simp <;> rfl);intro K hK;go_simp;apply hK;clear hK K)
          iterate 12 (apply x_sg rfl rfl (by first|rfl|(simp [Region.wanted,yielded,go_sem]));(focus intro u hc' hf';go_simp <;> rfl);intro K hK;go_simp;apply hK;clear hK K)
          refine x_callg rfl rfl (Exc.grows _ _) (Exc.refl _ _) 307 (fun K hK=>?_);refine ⟨by first|rfl|(simp [Region.wanted,yielded,go_sem]),?_⟩;apply Exists.intro;refine ⟨fun w' hw'=>?_,fun w' hw' hbw=>?_⟩;(focus go_simp;rfl);refine (hgMeets_any _ _ e.outs f.ins _ (HFE.out.2.keep (upW hw')) (HFE.out.1.keep (upW hw')) (by omega) (by omega)).mono ?_;rintro e w2 ⟨rfl,rfl⟩;refine ⟨_,rfl,Below.refl _ _,fun hx=>?_⟩;go_simp;apply hK;clear hK K
          iterate 2 (apply x_sg rfl rfl (by first|rfl|(simp [Region.wanted,yielded,go_sem]));(focus intro u hc' hf';go_simp <;> rfl);intro K hK;go_simp;apply hK;clear hK K)
          iterate 2 (apply x_st rfl rfl rfl;(focus intro u hc' hf';go_simp <;> rfl);intro K hK;go_simp;apply hK;clear hK K)
          refine x_nil ?_
          go_wp2
          go_roundw
          case rel=>exact ⟨j+1,by omega,by go_num,by rw [HSN.out];rfl,HST.out.keep (upW hx)⟩
          case measure=>simp [intOf];omega
       ·obtain rfl:j=E.length:=by omega
        have HST:=Lib.hid hst
        clear hst
        cases hrd:rdN E f dn E.length with
        | true =>
         have HN:=Lib.hid (nxt_yes HNX.out (HF.out.trans hrd))
         clear hrd
         go_wp2
         go_roundw
         case rel=>exact ⟨k+1,by omega,by go_num,by rw [HN.out];rfl,HST.out⟩
         case measure=>simp [intOf];omega
        | false =>
         have HN:=Lib.hid ((nxt_no (HF.out.trans hrd)).trans HNX.out)
         clear hrd
         go_wp2
         go_roundw
         case rel=>exact ⟨k+1,by omega,by go_num,by rw [HN.out];rfl,HST.out⟩
         case measure=>simp [intOf];omega
   ·obtain rfl:k=E.length:=by omega
    cases hnx:nxt nd dn E.length with
    | none =>
     have hend:ordE E=out:=by
      rw [HRES.out,hst.eq,ordGo_end (by rw [hst.len];exact hnx),List.append_nil]
     have HE:=Lib.hid hend
     have hrow:=hst.row
     have hbel:=hst.bel
     rw [show nxtV none=(-1:Int) from rfl]
     clear hst hnx hend hat
     go_wp2
     go_ret
     rw [HE.out]
     exact ⟨_,rfl,hrow,hbel⟩
    | some m =>
     have hm:=(nxt_some hnx).1
     have hm0:¬ ((m:Int)<0):=by omega
     have hmd:m<dn.length:=by rw [hst.len];exact hm
     obtain ⟨he,hc⟩:=or_next2 hst.len hst.eq hst.cnt hnx
     have bD:=hst.bk.get m hmd
     have bf:=hst.bk.frz m
     have bz:=hst.bk.lt
     have bs:=hst.bk.set m true
     have hrne:=row_blk_ne hst.row hst.bk (by decide)
     have hrow1:Rw (wr.setCell ⟨w.heap.size+1,m,none⟩ (.bool true)) w.heap.size (.slice ra out.length rc) out:=owns_other hst.row _ _ hrne
     have hB1:Below w.heap.size w (wr.setCell ⟨w.heap.size+1,m,none⟩ (.bool true)):=hst.bel.setCell (by simp) _
     have kc1:Bk (wr.setCell ⟨w.heap.size+1,m,none⟩ (.bool true)) w.heap.size 53 #[.int .i64 W,.slice a E.length cap,vi,vo]:=hst.kc.other ⟨w.heap.size+1,m,none⟩ (.bool true) (by simp)
     have hlen:=hst.len
     have hold:=nxt_open hnx hmd
     rw [hold] at bD
     rw [show nxtV (some m)=(m:Int) from rfl]
     have hcnt:=hst.cnt
     have hzz:(wr.setCell ⟨w.heap.size+1,m,none⟩ (.bool true)).heap.size=wr.heap.size:=by simp
     have h1:=one_at (wr.setCell ⟨w.heap.size+1,m,none⟩ (.bool true)) m
     have hA3:=alloc_below (wr.setCell ⟨w.heap.size+1,m,none⟩ (.bool true)) (.cells #[.int .i64 m] 3)
     have hrow2:=hrow1.keep hA3
     have hB2:=hB1.trans (hA3.mono hB1.size)
     have hbk2:=BlB.keep hA3 bs
     have kc2:=kc1.keep hA3
     rw [hzz] at h1
     have hsz2:=hB2.size
     have HE:=Lib.hid (And.intro he hc)
     have HKC:=Lib.hid (And.intro kc2 hbk2)
     have hapart:=row_blk_ne hrow2 hbk2 (by decide)
     have hapart2:=row_blk_ne hrow2 kc2 (by decide)
     have hbz:=hbk2.lt
     have hkz:=kc2.lt
     clear hst hnx hold he hc hat hrow1 hB1 kc1 bs hA3 kc2 hbk2
     go_wp2_with (at_builtin;go_must (refine ints_append h1 rfl (.tmp 66) (.tmp 68) rfl w.heap.size _ out rfl rfl hrow2 hsz2 (by simp only [List.length_singleton];omega) ?_);intro v2 w2 q1 q2 q3)
     have hb4:Below w.heap.size w w2:=hB2.grown q2 hsz2 (fun j hj=>(World.ownsRow.lt hrow2 j hj).1)
     have hk3:=Bk.grown q2 HKC.out.1 hapart2
     have hk4:BlB w2 (w.heap.size+1) (dn.set m true):=Bk.grown q2 HKC.out.2 hapart
     obtain ⟨va,vc,rfl⟩:=q1.slice
     go_roundw
     case rel=>exact ⟨out ++ [(m:Int)],dn.set m true,hk3,hk4,q1,hb4,by rw [List.length_set];exact hlen,HE.out.1,HE.out.2⟩
     case measure=>simp [lnV];omega
end Go.Proofs.YtbljmfcifljkaaaGreatDoor
/-
  slices.IndexFunc and ContainsFunc at rows of ints and whatever predicate. Own work.
-/
namespace Go.Proofs.YtbljmfcifljkaaaGreatDoor
open Go.RowKit
set_option maxRecDepth 100000
set_option maxHeartbeats 2000000
def fiV (p:Int → Bool) (zs:List Int):Int:=match zs.findIdx? p with
 | some i=>i
 | none=>-1
def PrdB (g:Nat) (lb:Array Value) (p:Int → Bool) (zs:List Int) (w:World):Prop :=
 ∀ (W:World) (z:Int),z ∈ zs → Below w.heap.size w W → Calls Tryz.prog g (#[.int .i64 z] ++ lb) W fun e w'=>e=.returned (.bool (p z))∧Below w.heap.size w w'
theorem fiV_hit {p:Int → Bool} {zs:List Int} {k:Nat} (hk:k<zs.length) (h:∀ j,∀ h:j<zs.length,j<k → p (zs[j]'h)=false) (hp:p zs[k]=true):fiV p zs=k:=by
 unfold fiV
 have:zs.findIdx? p=some k:=by
  rw [List.findIdx?_eq_some_iff_getElem]
  exact ⟨hk,hp,fun j hj=>by rw [h j (by omega) hj];simp⟩
 rw [this]
theorem fiV_miss {p:Int → Bool} {zs:List Int} (h:∀ j,∀ h:j<zs.length,p (zs[j]'h)=false):fiV p zs=-1:=by
 unfold fiV
 have:zs.findIdx? p=none:=by
  rw [List.findIdx?_eq_none_iff]
  intro x hx
  obtain ⟨j,hj,rfl⟩:=List.mem_iff_getElem.1 hx
  exact h j hj
 rw [this]
theorem indexFunc_any (v:Value) (zs:List Int) (g:Nat) (lb:Array Value) (p:Int → Bool) (w:World) (hv:IntsAt w v zs) (hn:zs.length≤1048576) (hp:PrdB g lb p zs w)
  (eg:∀ args w,(callFunc g args).run Tryz.prog w=.ok (.enter g args) w) :
  Calls Tryz.prog 151 #[v,.func (.func g) #[] lb] w fun e w'=>e=.returned (.int .i64 (fiV p zs))∧Below w.heap.size w w':=by
 obtain ⟨a,cap,rfl,hc,hat⟩:=hv
 have HP:=Lib.hid hp
 clear hp
 go_enter Tryz.func151,Tryz.ntmps151
 go_wp2
 go_loopw [8] (fun i wr=>∃ k:Nat,k≤zs.length∧i=.int .i64 k∧Below w.heap.size w wr∧∀ j,∀ h:j<zs.length,j<k → p (zs[j]'h)=false) (fun i _=>zs.length - (intOf i).toNat)
 case atStart=>exact ⟨0,Nat.zero_le _,rfl,Below.refl _ _,fun j h1 h2=>by omega⟩
 case round =>
  obtain ⟨k,hk,rfl,hbel,hall⟩:=hrel
  have HALL:=Lib.hid hall
  clear hall
  by_cases hlt:k<zs.length
  ·obtain ⟨b,o,rfl,_,c0⟩:=hat k hlt
   rw [Nat.mul_one] at c0
   replace c0:=cell_keep hbel c0
   have bz:=cell_lt c0
   have hcall:=HP.out wr _ (List.getElem_mem hlt) hbel
   cases hb:p zs[k] with
   | true =>
    have HF:=Lib.hid (fiV_hit hlt HALL.out hb)
    rw [hb] at hcall
    generalize zs[k]=z at c0 hcall
    have HC:=Lib.hid hcall
    clear hb hat hcall
    go_wp2_with (go_at_fn g;refine HC.out.mono ?_;rintro e w2 ⟨rfl,hb2⟩)
    go_ret
    exact ⟨by rw [HF.out];rfl,hb2⟩
   | false =>
    have HB:=Lib.hid hb
    rw [hb] at hcall
    generalize zs[k]=z at c0 hcall
    have HC:=Lib.hid hcall
    clear hb hat hcall
    go_wp2_with (go_at_fn g;refine HC.out.mono ?_;rintro e w2 ⟨rfl,hb2⟩)
    go_roundw
    case rel=>exact ⟨k+1,by omega,by go_num,hb2,fun j h1 h2=>by
     rcases Nat.lt_or_ge j k with h|h
     ·exact HALL.out j h1 h
     ·obtain rfl:j=k:=by omega
      exact HB.out⟩
    case measure=>simp [intOf];omega
  ·obtain rfl:k=zs.length:=by omega
   have HF:=Lib.hid (fiV_miss (fun j hj=>HALL.out j hj hj))
   clear hat
   go_wp2
   go_ret
   exact ⟨by rw [HF.out];rfl,hbel⟩
theorem fiV_any (p:Int → Bool) (zs:List Int):(0≤fiV p zs) ↔ zs.any p=true:=by
 unfold fiV
 cases h:zs.findIdx? p with
 | some i =>
  obtain ⟨hi,hp,_⟩:=List.findIdx?_eq_some_iff_getElem.1 h
  simp only [Int.natCast_nonneg,true_iff]
  exact List.any_eq_true.2 ⟨_,List.getElem_mem hi,hp⟩
 | none =>
  rw [List.findIdx?_eq_none_iff] at h
  constructor
  ·intro h0;simp at h0
  ·intro h1
   obtain ⟨x,hx,hp⟩:=List.any_eq_true.1 h1
   rw [h x hx] at hp;cases hp
theorem containsFunc_any (v:Value) (zs:List Int) (g:Nat) (lb:Array Value) (p:Int → Bool) (w:World) (hv:IntsAt w v zs) (hn:zs.length≤1048576) (hp:PrdB g lb p zs w)
  (eg:∀ args w,(callFunc g args).run Tryz.prog w=.ok (.enter g args) w) :
  Calls Tryz.prog 272 #[v,.func (.func g) #[] lb] w fun e w'=>e=.returned (.bool (zs.any p))∧Below w.heap.size w w':=by
 obtain ⟨a,cap,rfl⟩:=hv.slice
 have HI:=Lib.hid (indexFunc_any _ zs g lb p w hv hn hp eg)
 have hfa:=fiV_any p zs
 clear hp hv
 go_enter Tryz.func272,Tryz.ntmps272
 go_wp2_with fail
 refine HI.out.mono ?_
 rintro e w2 ⟨rfl,hb2⟩
 clear HI
 generalize fiV p zs=r at hfa
 have HFA:=Lib.hid hfa
 clear hfa
 go_wp2
 go_ret
 refine ⟨?_,hb2⟩
 by_cases h0:0≤r
 ·rw [HFA.out.1 h0];simp [h0]
 ·have:zs.any p=false:=by
   cases h:zs.any p with
   | false=>rfl
   | true=>exact absurd (HFA.out.2 h) h0
  rw [this];simp [h0]
end Go.Proofs.YtbljmfcifljkaaaGreatDoor
/-
  The program's order of edges: its closures. Own work.
-/
namespace Go.Proofs.YtbljmfcifljkaaaGreatDoor
open Go.RowKit
set_option maxRecDepth 100000
set_option maxHeartbeats 2000000
theorem eg_of {f : FuncId} {fn : Func} {c : Code} (hf : Tryz.prog.funcs[f]? = some fn) (hname : (fn.name == "runtime.NumGoroutine") = false) (hb : fn.body = some c) :
  ∀ args w,(callFunc f args).run Tryz.prog w=.ok (.enter f args) w:=by
 intro args w
 have h1 : fn.name ≠ "runtime.NumGoroutine" := by simpa using hname
 simp [callFunc,hf,h1,hb,mark]
theorem eoIn_any (k Lb G:Nat) (dn:List Bool) (w:World) (hL:Bk w Lb 307 #[.slice (some ⟨G,0,none⟩) dn.length dn.length]) (hG:BlB w G dn) (hk:k<dn.length) :
  Calls Tryz.prog 273 #[.int .i64 k,.pointer (some ⟨Lb,0,none⟩)] w fun e w'=>e=.returned (.bool (!(dn.getD k true)))∧w=w':=by
 have l0:=hL.cell.1 0
 have lz:=hL.lt
 simp only [List.getElem?_toArray,List.getElem?_cons_zero] at l0
 have d0:=hG.get k hk
 have dz:=hG.lt
 have hgd:dn.getD k true=dn[k]:=by rw [List.getD_eq_getElem?_getD,List.getElem?_eq_getElem hk];rfl
 rw [hgd]
 generalize dn[k]=b at d0
 clear hgd hL hG
 go_enter Tryz.func273,Tryz.ntmps273
 go_wp2
 go_ret
 exact ⟨rfl,rfl⟩
theorem rdy_any (ks:List Int) (dn:List Bool):rdyB ks dn=!(ks.any fun k=>!(dn.getD k.toNat true)):=by
 unfold rdyB
 induction ks with
 | nil=>rfl
 | cons k r ih =>
  rw [List.all_cons,List.any_cons,ih]
  cases dn.getD k.toNat true <;> simp
theorem eoOut_any (i Lb Nb G:Nat) (na:Option Addr) (nc:Nat) (nd:List (List Int)) (dn:List Bool) (w:World) (hL:Bk w Lb 307 #[.slice (some ⟨G,0,none⟩) dn.length dn.length]) (hG:BlB w G dn)
  (hN:Bk w Nb 256 #[.slice na nd.length nc]) (hnd:LsAt w (.slice na nd.length nc) nd) (hl:nd.length=dn.length) (hi:i<dn.length)
  (hin:∀ ks ∈ nd,ks.length≤1000∧∀ k ∈ ks,0≤k∧k<dn.length) :
  Calls Tryz.prog 271 #[.int .i64 i,.pointer (some ⟨Lb,0,none⟩),.pointer (some ⟨Nb,0,none⟩)] w fun e w'=>e=.returned (.bool (frB nd dn i))∧Below w.heap.size w w':=by
 have l0:=hL.cell.1 0
 have lz:=hL.lt
 have n0:=hN.cell.1 0
 have nz:=hN.lt
 simp only [List.getElem?_toArray,List.getElem?_cons_zero] at l0 n0
 have d0:=hG.get i hi
 have dz:=hG.lt
 have hin2:=hin _ (List.getElem_mem (show i<nd.length by omega))
 obtain ⟨a',cap',e',hcap,hat⟩:=hnd
 simp only [Value.slice.injEq,true_and] at e'
 obtain ⟨rfl,rfl⟩:=e'
 obtain ⟨b,o,rfl,_,u,hu,hks⟩:=hat i (by omega)
 rw [Nat.mul_one] at hu
 have uz:=cell_lt hu
 have hndi:nd.getD i []=nd[i]'(by omega):=by rw [List.getD_eq_getElem?_getD,List.getElem?_eq_getElem (by omega)];rfl
 cases hdi:dn[i] with
 | true =>
  have HF:=Lib.hid (frB_done (nd:=nd) hi hdi)
  rw [hdi] at d0
  clear hat hks hin hin2 hndi hdi hL hG hN
  have hlz:i<nd.length:=by omega
  go_enter Tryz.func271,Tryz.ntmps271
  go_wp2
  go_ret
  exact ⟨by rw [HF.out];rfl,Below.refl _ _⟩
 | false =>
  have hf:=frB_open (nd:=nd) hi hdi
  rw [hndi,rdy_any] at hf
  rw [hdi] at d0
  have hlz:i<nd.length:=by omega
  generalize nd[i]'hlz=ks at hks hf hin2
  have HF:=Lib.hid hf
  have HCF:=Lib.hid (containsFunc_any u ks 273 #[.pointer (some ⟨Lb,0,none⟩)] (fun k=>!(dn.getD k.toNat true)) w hks (by omega) (fun W z hz hb=>by
   have hr:=hin2.2 z hz
   obtain ⟨m,rfl⟩:∃ m:Nat,z=m:=⟨z.toNat,by omega⟩
   refine (eoIn_any m Lb G dn W (hL.keep hb) (hG.keep hb) (by omega)).mono ?_
   rintro e w' ⟨rfl,rfl⟩
   exact ⟨by show _=Ending.returned (Value.bool (!(dn.getD ((m:Int)).toNat true)));rw [Int.toNat_natCast],hb⟩) (eg_of Tryz.func273 (by kernel_rfl) rfl))
  obtain ⟨ua,uc,rfl⟩:=hks.slice
  clear hat hks hin hin2 hndi hdi hL hG hN hf
  go_enter Tryz.func271,Tryz.ntmps271
  go_wp2_with fail
  refine HCF.out.mono ?_
  rintro e w1 ⟨rfl,hb1⟩
  go_wp2
  go_ret
  exact ⟨by rw [HF.out];rfl,hb1⟩
end Go.Proofs.YtbljmfcifljkaaaGreatDoor
