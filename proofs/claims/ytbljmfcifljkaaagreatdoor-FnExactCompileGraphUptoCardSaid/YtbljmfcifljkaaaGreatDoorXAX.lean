/-
  The program's order of the gates: schedule. Own work.
-/
import Derived.Test.YtbljmfcifljkaaaGreatDoorXAW
set_option linter.all false
set_option maxRecDepth 100000
set_option maxHeartbeats 8000000
namespace Go.Proofs.YtbljmfcifljkaaaGreatDoor
open Go.RowKit Go.Maps
set_option maxRecDepth 100000
set_option maxHeartbeats 2000000
theorem sIn_any (k ob mb nM:Nat) (dn:List Bool) (w:World) (ko:Bk w ob 324 #[.map (some mb)]) (hm:MbB w mb nM dn) (hk:k≤1000) :
  Calls Tryz.prog 277 #[.int .i64 k,.pointer (some ⟨ob,0,none⟩)] w fun e w'=>e=.returned (.bool (!(dn.getD k true)))∧w=w':=by
 have o0:=ko.cell.1 0
 have oz:=ko.lt
 simp only [List.getElem?_toArray,List.getElem?_cons_zero] at o0
 have hlk:=hm.look k (by omega)
 generalize (!(dn.getD k true))=b at hlk ⊢
 clear ko hm
 go_enter Tryz.func277,Tryz.ntmps277
 go_wp2
 go_ret
 exact ⟨rfl,rfl⟩
theorem sOut_any (i ob mb nM cb:Nat) (inp:Int) (vg vo:Value) (gs:List GtI) (dn:List Bool) (w:World) (ko:Bk w ob 324 #[.map (some mb)]) (hm:MbB w mb nM dn) (kc:Bk w cb 112 #[.int .i64 inp,vg,vo])
  (hg:GtsAt w vg gs) (hn:gs.length≤1000) (hi:i<gs.length) (hl:dn.length=gs.length) (hok:∀ g ∈ gs,∀ z ∈ ndsG g,0≤z∧z<gs.length) :
  Calls Tryz.prog 276 #[.int .i64 i,.pointer (some ⟨ob,0,none⟩),.pointer (some ⟨cb,0,none⟩)] w fun e w'=>e=.returned (.bool (frB (gs.map ndsG) dn i))∧Below w.heap.size w w':=by
 have o0:=ko.cell.1 0
 have oz:=ko.lt
 simp only [List.getElem?_toArray,List.getElem?_cons_zero] at o0
 have hlk:=hm.look i (by omega)
 have hgd:dn.getD i true=dn[i]'(by omega):=by rw [List.getD_eq_getElem?_getD,List.getElem?_eq_getElem (by omega)];rfl
 rw [hgd] at hlk
 cases hdi:dn[i]'(by omega) with
 | true =>
  have HF:=Lib.hid (frB_done (nd:=gs.map ndsG) (by omega) hdi)
  rw [hdi] at hlk
  simp only [Bool.not_true] at hlk
  clear ko hm kc hg hgd hdi
  go_enter Tryz.func276,Tryz.ntmps276
  go_wp2
  go_ret
  exact ⟨by rw [HF.out];rfl,Below.refl _ _⟩
 | false =>
  have hf:=frB_open (nd:=gs.map ndsG) (by omega) hdi
  have e3:(gs.map ndsG).getD i []=ndsG gs[i]:=by rw [List.getD_eq_getElem?_getD,List.getElem?_map,List.getElem?_eq_getElem hi];rfl
  rw [e3,rdy_any] at hf
  rw [hdi] at hlk
  simp only [Bool.not_false] at hlk
  obtain ⟨a,cap,rfl,hc,hat⟩:=hg
  obtain ⟨b,o,rfl,_,hgt⟩:=hat i hi
  have hrng:=hok _ (List.getElem_mem hi)
  have hnd:=fun W=>needs_any gs[i] W
  obtain ⟨g,hgi⟩:∃ g,gs[i]=g:=⟨_,rfl⟩
  rw [hgi] at hgt hf hrng hnd
  obtain ⟨c0,c1,c2,c3⟩:=hgt
  have bz:=cell_lt c0
  have x1:=kc.cell.1 1
  have xz:=kc.lt
  simp only [List.getElem?_toArray,List.getElem?_cons_zero,List.getElem?_cons_succ] at x1
  have HND:=Lib.hid hnd
  have HF:=Lib.hid hf
  have HKO:=Lib.hid ko
  have HM:=Lib.hid hm
  have hnl:(ndsG g).length≤2:=by unfold ndsG;split;exact opsG_len g;simp
  unfold gtV at HND
  clear ko hm kc hat hgi e3 hdi hgd hnd hf
  go_enter Tryz.func276,Tryz.ntmps276
  go_wp2_with fail
  refine (HND.out w).mono ?_
  rintro e w1 ⟨u,rfl,hu,hb1⟩
  have HCF:=Lib.hid (containsFunc_any u (ndsG g) 277 #[.pointer (some ⟨ob,0,none⟩)] (fun k=>!(dn.getD k.toNat true)) w1 hu.at (by omega) (fun W z hz hb=>by
   have hr:=hrng z hz
   obtain ⟨m,rfl⟩:∃ m:Nat,z=m:=⟨z.toNat,by omega⟩
   refine (sIn_any m ob mb nM dn W (HKO.out.keep (hb1.trans (hb.mono hb1.size))) (HM.out.keep (hb1.trans (hb.mono hb1.size))) (by omega)).mono ?_
   rintro e w' ⟨rfl,rfl⟩
   exact ⟨by show _=Ending.returned (Value.bool (!(dn.getD ((m:Int)).toNat true)));rw [Int.toNat_natCast],hb⟩) (eg_of Tryz.func277 (by kernel_rfl) rfl))
  obtain ⟨ua,uc,rfl⟩:=hu.slice
  clear hu HND hrng hnl
  go_wp2_with fail
  refine HCF.out.mono ?_
  rintro e w2 ⟨rfl,hb2⟩
  go_wp2
  go_ret
  exact ⟨by rw [HF.out];rfl,hb1.trans (hb2.mono hb1.size)⟩
theorem nds_some (g:GtI):(0<((ndsG g).length:Int)) ↔ cmbB g=true:=by
 unfold ndsG cmbB opsG
 by_cases h3:g.kind=3
 ·simp [h3]
 ·by_cases h4:g.kind=4
  ·simp [h3,h4]
  ·simp [h3,h4]
def dnI (gs:List GtI) (k:Nat):List Bool:=(dn0 gs).take k ++ List.replicate (gs.length - k) true
theorem dnI_len (gs:List GtI) {k:Nat} (hk:k≤gs.length):(dnI gs k).length=gs.length:=by simp [dnI,dn0];omega
theorem dnI_at (gs:List GtI) {k:Nat} (hk:k<gs.length):(dnI gs k)[k]'(by rw [dnI_len gs (by omega)];exact hk)=true:=by
 unfold dnI
 have hl:((dn0 gs).take k).length=k:=by simp [dn0];omega
 rw [List.getElem_append_right (by omega)]
 simp
theorem dnI_no (gs:List GtI) {k:Nat} (hk:k<gs.length) (h:cmbB gs[k]=false):dnI gs (k+1)=dnI gs k:=by
 unfold dnI
 have hl:k<(dn0 gs).length:=by simp [dn0];exact hk
 rw [List.take_succ_eq_append_getElem hl]
 have e1:(dn0 gs)[k]=true:=by simp [dn0,h]
 rw [e1,List.append_assoc,show gs.length - k=(gs.length - (k+1))+1 by omega,List.replicate_succ]
 rfl
theorem dnI_yes (gs:List GtI) {k:Nat} (hk:k<gs.length) (h:cmbB gs[k]=true):dnI gs (k+1)=(dnI gs k).set k false:=by
 unfold dnI
 have hl:k<(dn0 gs).length:=by simp [dn0];exact hk
 have hl2:((dn0 gs).take k).length=k:=by simp [dn0];omega
 rw [List.take_succ_eq_append_getElem hl]
 have e1:(dn0 gs)[k]=false:=by simp [dn0,h]
 rw [e1,List.append_assoc,show gs.length - k=(gs.length - (k+1))+1 by omega,List.replicate_succ,List.set_append_right _ _ (by omega),hl2,Nat.sub_self,List.set_cons_zero]
 rfl
theorem dnI_all (gs:List GtI):dnI gs gs.length=dn0 gs:=by
 unfold dnI
 rw [Nat.sub_self,List.take_of_length_le (by simp [dn0])]
 simp
def schB (gs:List GtI):Bool:=decide ((ordC gs).length=(gs.filter cmbB).length)
def schL (gs:List GtI):List Int:=match schB gs with
 | true=>ordC gs
 | false=>[]
theorem schL_yes {gs:List GtI} (h:schB gs=true):schL gs=ordC gs:=by unfold schL;rw [h]
theorem schL_no {gs:List GtI} (h:schB gs=false):schL gs=[]:=by unfold schL;rw [h]
structure SdS (w:World) (gs:List GtI) (cs:Array Value) (wr:World) (rv:Value) (out:List Int) (dn:List Bool):Prop where
 kc:Bk wr w.heap.size 112 cs
 ko:Bk wr (w.heap.size+2) 324 #[.map (some (w.heap.size+1))]
 mb:MbB wr (w.heap.size+1) gs.length dn
 row:Rw wr w.heap.size rv out
 bel:Below w.heap.size w wr
 len:dn.length=gs.length
 eq:ordC gs=out ++ ordGo (gs.map ndsG) (gs.length+1 - out.length) dn
 cnt:out.length+dn.count false=(gs.filter cmbB).length
theorem SdS.keep {w:World} {gs:List GtI} {cs:Array Value} {wr w':World} {rv:Value} {out:List Int} {dn:List Bool} (h:SdS w gs cs wr rv out dn) (hb:Below wr.heap.size wr w'):SdS w gs cs w' rv out dn :=
 ⟨h.kc.keep hb,h.ko.keep hb,h.mb.keep hb,h.row.keep hb,h.bel.trans (hb.mono h.bel.size),h.len,h.eq,h.cnt⟩
theorem sd_next {gs:List GtI} {out:List Int} {dn:List Bool} {m:Nat} (hl:dn.length=gs.length) (he:ordC gs=out ++ ordGo (gs.map ndsG) (gs.length+1 - out.length) dn) (hc:out.length+dn.count false=(gs.filter cmbB).length)
  (h:nxt (gs.map ndsG) dn gs.length=some m):ordC gs=(out ++ [(m:Int)]) ++ ordGo (gs.map ndsG) (gs.length+1 - (out ++ [(m:Int)]).length) (dn.set m true)∧(out ++ [(m:Int)]).length+(dn.set m true).count false=(gs.filter cmbB).length:=by
 rw [← hl] at h
 have hm:=(nxt_some h).1
 have hd:=nxt_open h hm
 have hcs:=dn_count hm hd
 have hfl:=List.length_filter_le cmbB gs
 have e1:(out ++ [(m:Int)]).length=out.length+1:=by simp
 refine ⟨?_,by rw [e1];omega⟩
 rw [he,e1,show gs.length+1 - out.length=(gs.length+1 - (out.length+1))+1 by omega,ordGo_step h,List.append_assoc]
 rfl
theorem own_keep {w w':World} {b n:Nat} {D:DataW Unit} {R:Value → Option (DataW Unit × List MemPlace)} (hb:Below w.heap.size w w') (h:w.ownsMap Tryz.prog 3 R b n D):w'.ownsMap Tryz.prog 3 R b n D:=by
 obtain ⟨es,clock,h1,r⟩:=h
 exact ⟨es,clock,(hb.block b (Array.getElem?_eq_some_iff.1 h1).1).trans h1,r⟩
theorem Bk.ne_map {w:World} {b m n:Nat} {t:TypeId} {cs:Array Value} {D:DataW Unit} {R:Value → Option (DataW Unit × List MemPlace)} (h:Bk w b t cs) (hm:w.ownsMap Tryz.prog 3 R m n D):b ≠ m:=by
 obtain ⟨es,clock,h1,r⟩:=hm
 intro e
 subst e
 have:=h.symm.trans h1
 cases this
theorem own_ne_map {w:World} {B e sz m k n:Nat} {v:Value} {xs:List Value} {D:DataW Unit} {R:Value → Option (DataW Unit × List MemPlace)} (h:w.ownsRow B e sz v k xs) (hm:w.ownsMap Tryz.prog 3 R m n D):v.ownBlock ≠ some m:=by
 intro hk
 obtain ⟨es,clock,h1,r⟩:=hm
 rcases h.2 with ⟨rfl,_⟩|⟨g,cap,cur,rfl,_,hgg,_⟩
 ·simp [Value.ownBlock] at hk
 ·simp [Value.ownBlock] at hk
  subst hk
  have:=hgg.symm.trans h1
  cases this
theorem schedule_any (inp:Int) (vg vo:Value) (gs:List GtI) (w:World) (hg:GtsAt w vg gs) (hn:gs.length≤1000) (hok:∀ g ∈ gs,∀ z ∈ ndsG g,0≤z∧z<gs.length) :
  Calls Tryz.prog 218 #[.agg #[.int .i64 inp,vg,vo]] w fun e w'=>∃ v,e=.returned (.tuple #[v,.bool (schB gs)])∧Rw w' w.heap.size v (schL gs)∧Below w.heap.size w w':=by
 have hgW:=fun (U:World) (hb:Below w.heap.size w U)=>hg.keep hb
 obtain ⟨a,cap,rfl,hc,hat⟩:=hg
 have hmm:=@run_makeMap Tryz.prog
 have hA1:=alloc_below w (.cells #[.int .i64 inp,.slice a gs.length cap,vo] 112)
 have hA2:=alloc_below (w.alloc (.cells #[.int .i64 inp,.slice a gs.length cap,vo] 112)) (.map #[] 0)
 have hA3:=alloc_below ((w.alloc (.cells #[.int .i64 inp,.slice a gs.length cap,vo] 112)).alloc (.map #[] 0)) (.cells #[.map (some (w.heap.size+1))] 324)
 have kC:=((Bk.new w 112 #[.int .i64 inp,.slice a gs.length cap,vo]).keep hA2).keep hA3
 have kO:=Bk.new ((w.alloc (.cells #[.int .i64 inp,.slice a gs.length cap,vo] 112)).alloc (.map #[] 0)) 324 #[.map (some (w.heap.size+1))]
 have hM0:=World.ownsMap_made (w.alloc (.cells #[.int .i64 inp,.slice a gs.length cap,vo] 112)) Tryz.prog 3 (plainElem (H:=Unit) Tryz.prog 4)
 rw [World.size_alloc] at hM0
 simp only [World.size_alloc] at kO
 have hM:=own_keep hA3 hM0
 have hB:=(hA1.trans (hA2.mono hA1.size)).trans (hA3.mono (by simp;omega))
 have hmb:MbB (((w.alloc (.cells #[.int .i64 inp,.slice a gs.length cap,vo] 112)).alloc (.map #[] 0)).alloc (.cells #[.map (some (w.heap.size+1))] 324)) (w.heap.size+1) 0 (dnI gs 0):=⟨_,hM,by simpa [dnI] using mb_empty gs.length⟩
 have HGW:=Lib.hid hgW
 have HOK:=Lib.hid hok
 clear hA1 hA2 hA3 hM0 hM hgW hok
 go_enter Tryz.func218,Tryz.ntmps218
 go_wp2_with fail
 generalize (((w.alloc (.cells #[.int .i64 inp,.slice a gs.length cap,vo] 112)).alloc (.map #[] 0)).alloc (.cells #[.map (some (w.heap.size+1))] 324))=u0 at *
 go_loopw [13] (fun i wr=>∃ k:Nat,k≤gs.length∧i=.int .i64 k∧MbB wr (w.heap.size+1) k (dnI gs k)∧Bk wr w.heap.size 112 #[.int .i64 inp,.slice a gs.length cap,vo]∧Bk wr (w.heap.size+2) 324 #[.map (some (w.heap.size+1))]∧Below w.heap.size w wr) (fun i _=>gs.length - (intOf i).toNat)
 case atStart=>exact ⟨0,Nat.zero_le _,rfl,hmb,kC,kO,hB⟩
 case round =>
  clear hmb kC kO hB
  obtain ⟨k,hk,rfl,hmb,kC,kO,hbel⟩:=hrel
  by_cases hlk:k<gs.length
  ·obtain ⟨b,o,rfl,_,hgt⟩:=hat k hlk
   have hyes:=dnI_yes gs hlk
   have hno:=dnI_no gs hlk
   have hnd:=fun W=>needs_any gs[k] W
   have hns:=nds_some gs[k]
   obtain ⟨g,hgi⟩:∃ g,gs[k]=g:=⟨_,rfl⟩
   rw [hgi] at hgt hyes hno hnd hns
   obtain ⟨c0,c1,c2,c3⟩:=hgt.keep hbel
   have bz:=cell_lt c0
   have hA2:=alloc_below wr (.cells #[.int .i64 g.kind,.int .i64 g.a,.int .i64 g.b,.int .i64 g.value] 203)
   have HND:=Lib.hid hnd
   unfold gtV at HND
   have HDL:=Lib.hid (dnI_len gs (Nat.le_of_lt hlk))
   have HDA:=Lib.hid (dnI_at gs hlk)
   obtain ⟨D,hown,hmi⟩:=hmb
   have o0:=kO.cell.1 0
   have oz:=kO.lt
   simp only [List.getElem?_toArray,List.getElem?_cons_zero] at o0
   have HK:=Lib.hid (And.intro kC (And.intro kO hbel))
   have HMI:=Lib.hid hmi
   have HOWN:=Lib.hid hown
   have HHAT:=Lib.hid hat
   clear hnd hgi kC kO hbel hmi hat hown
   cases hcb:cmbB g with
   | true =>
    have HSN:=Lib.hid (hyes hcb)
    have hpos:=hns.2 hcb
    clear hns hyes hno hcb
    go_wp2_with fail
    refine (HND.out _).mono ?_
    rintro e w1 ⟨u,rfl,hu,hb1⟩
    obtain ⟨ua,uc,rfl⟩:=hu.slice
    have hb2:=hA2.trans (hb1.mono hA2.size)
    have hown1:=own_keep hb2 HOWN.out
    have hty:=HOWN.out.tidy kInt
    replace o0:=cell_keep hb2 o0
    replace oz:=cell_lt o0
    clear hu hA2 c0 c1 c2 c3 bz
    go_wp2_with (at_mapUpdate;refine wpList_mapUpdate_own _ rfl _ _ _ 324 rfl 3 4 kInt Tryz.underlying324 _ (w.heap.size+1) k D rfl hown1 (by unfold maxLen;omega) _ _ _ rfl rfl (kI_key (i:=(k:Int)) (by omega) (by omega)) _ [] (plainElem_bool Tryz.underlying4 true) ?_;intro w5 hown5 hgrow5)
    obtain ⟨kC,kO,hbel⟩:=HK.out
    have hb3:=hbel.trans (hb2.mono hbel.size)
    go_roundw
    case rel=>exact ⟨k+1,by omega,by go_num,by rw [HSN.out];exact ⟨_,hown5,mb_put HMI.out hty (by rw [HDL.out];exact hlk) HDA.out⟩,(kC.keep hb2).grown hgrow5 (by simp),(kO.keep hb2).grown hgrow5 (by simp),hb3.grown hgrow5 (by omega) (fun j hj=>by simp at hj;omega)⟩
    case measure=>simp [intOf];omega
   | false =>
    have HSN:=Lib.hid (hno hcb)
    have hpos:¬ (0:Int)<((ndsG g).length:Int):=fun h=>by rw [hns.1 h] at hcb;cases hcb
    clear hns hyes hno hcb
    go_wp2_with fail
    refine (HND.out _).mono ?_
    rintro e w1 ⟨u,rfl,hu,hb1⟩
    obtain ⟨ua,uc,rfl⟩:=hu.slice
    have hb2:=hA2.trans (hb1.mono hA2.size)
    clear hu hA2 c0 c1 c2 c3 bz
    go_wp2
    obtain ⟨kC,kO,hbel⟩:=HK.out
    go_roundw
    case rel=>exact ⟨k+1,by omega,by go_num,by rw [HSN.out];exact ⟨_,(own_keep hb2 HOWN.out).mono (by omega),HMI.out⟩,kC.keep hb2,kO.keep hb2,hbel.trans (hb2.mono hbel.size)⟩
    case measure=>simp [intOf];omega
  ·obtain rfl:k=gs.length:=by omega
   rw [dnI_all] at hmb
   have hrow0:=cg_nil wr w.heap.size hbel.size
   have hA2:=alloc_below wr (.cells #[] 3)
   have hst:SdS w gs #[.int .i64 inp,.slice a gs.length cap,vo] (wr.alloc (.cells #[] 3)) (.slice (some ⟨wr.heap.size,0,none⟩) 0 0) [] (dn0 gs):=⟨kC.keep hA2,kO.keep hA2,hmb.keep hA2,hrow0,hbel.trans (hA2.mono hbel.size),by simp [dn0],by simp [ordC],by simp [dn0_count]⟩
   clear hmb kC kO hbel hrow0 hA2
   go_wp2_with fail
   generalize (wr.alloc (.cells #[] 3))=u1 at hst ⊢
   generalize wr.heap.size=b1 at hst ⊢
   clear hat
   go_loopw [7] (fun rv wr=>∃ out dn,SdS w gs #[.int .i64 inp,.slice a gs.length cap,vo] wr rv out dn) (fun rv _=>gs.length+1 - lnV rv)
   case atStart=>exact ⟨_,_,hst⟩
   case round =>
    clear hst
    obtain ⟨out,dn,hst⟩:=hrel
    obtain ⟨ra,rc,rfl⟩:=hst.row.slice
    obtain ⟨D,hown,hmi⟩:=hst.mb
    have o0:=hst.ko.cell.1 0
    have oz:=hst.ko.lt
    have x1:=hst.kc.cell.1 1
    have xz:=hst.kc.lt
    simp only [List.getElem?_toArray,List.getElem?_cons_zero,List.getElem?_cons_succ] at o0 x1
    have hsz:=hmi.size
    have hfl:=List.length_filter_le cmbB gs
    have hcn:=hst.cnt
    by_cases hcnt:0<dn.count false
    ·have hcp:(0:Int)<((dn.count false:Nat):Int):=by omega
     have HST:=Lib.hid hst
     have HMI:=Lib.hid hmi
     clear hst hmi
     go_wp2_with (at_len;refine wpList_len_own _ rfl _ 324 rfl 3 4 Tryz.underlying324 _ (w.heap.size+1) gs.length D rfl hown ?_;rw [hsz])
     refine (upTo_any gs.length wr (by omega)).mono ?_
     rintro e w3 ⟨u,rfl,hu,hb3⟩
     have hst3:=HST.out.keep hb3
     have hpf:=indexFunc_any u (upL gs.length) 276 #[.pointer (some ⟨w.heap.size+2,0,none⟩),.pointer (some ⟨w.heap.size,0,none⟩)] (fun z=>frB (gs.map ndsG) dn z.toNat) w3 hu.at (by rw [upL_len];omega) (fun W z hz hb=>by
      obtain ⟨m,hm,rfl⟩:∃ m,m<gs.length∧z=(m:Int):=by
       obtain ⟨m,hm,rfl⟩:=List.mem_map.1 hz
       exact ⟨m,List.mem_range.1 hm,rfl⟩
      have hs:=hst3.keep hb
      refine (sOut_any m (w.heap.size+2) (w.heap.size+1) gs.length w.heap.size inp (.slice a gs.length cap) vo gs dn W hs.ko hs.mb hs.kc (HGW.out W hs.bel) hn hm hs.len HOK.out).mono ?_
      rintro e w' ⟨rfl,hb'⟩
      exact ⟨by show _=Ending.returned (Value.bool (frB (gs.map ndsG) dn ((m:Int)).toNat));rw [Int.toNat_natCast],hb.trans (hb'.mono hb.size)⟩) (eg_of Tryz.func276 (by kernel_rfl) rfl)
     rw [fi_nxt] at hpf
     have HPF:=Lib.hid hpf
     have HBW:=Lib.hid (own_keep hb3 hown)
     obtain ⟨ua,uc,rfl⟩:=hu.slice
     clear hpf hu o0 x1 oz xz hown hsz hcp
     go_wp2_with fail
     refine HPF.out.mono ?_
     rintro e w4 ⟨rfl,hb4⟩
     have hst4:=hst3.keep hb4
     have hown4:=own_keep hb4 HBW.out
     have o0:=hst4.ko.cell.1 0
     have oz:=hst4.ko.lt
     simp only [List.getElem?_toArray,List.getElem?_cons_zero,List.getElem?_cons_succ] at o0
     have hbel:=hst4.bel
     clear HPF hst3 hb3 hb4 HBW
     cases hnx:nxt (gs.map ndsG) dn gs.length with
     | none =>
      have hend:ordC gs=out:=by rw [hst4.eq,ordGo_end (by rw [hst4.len];exact hnx),List.append_nil]
      have hsch:schB gs=false:=by unfold schB;rw [hend];simp;omega
      have HS:=Lib.hid hsch
      rw [show nxtV none=(-1:Int) from rfl]
      clear hst4 hnx hend hsch hown4 o0 oz
      go_wp2
      go_ret2
      refine ⟨.slice none 0 0,by rw [HS.out];rfl,?_,hbel⟩
      rw [schL_no HS.out]
      exact World.ownsRow_nil _ _ _ _
     | some m =>
      have hm:=(nxt_some hnx).1
      have hm0:¬ ((m:Int)<0):=by omega
      have hmd:m<dn.length:=by rw [hst4.len];exact hm
      obtain ⟨he,hc2⟩:=sd_next hst4.len hst4.eq hst4.cnt hnx
      have hlt:=nxt_open hnx hmd
      have hty:=hown4.tidy kInt
      have hmi2:=mb_del HMI.out hty hmd hlt
      have HN:=Lib.hid (And.intro he (And.intro hc2 hmi2))
      have HST4:=Lib.hid hst4
      rw [show nxtV (some m)=(m:Int) from rfl]
      clear hst4 hnx he hc2 hmi2 hlt HST HMI
      have hrne:=own_ne_map HST4.out.row hown4
      go_wp2_with (first|(at_delete;refine wpList_delete_own _ rfl _ _ 324 3 rfl 4 kInt Tryz.underlying324 _ (w.heap.size+1) gs.length D rfl hown4 _ _ rfl (kI_key (i:=(m:Int)) (by omega) (by omega)) ?_;intro w5 hown5 hturn5;have hgr5:=hturn5.grown;have hb5:Below w.heap.size w w5:=hbel.grown hgr5 (by omega) (fun j hj=>by simp at hj;omega);have hA6:=alloc_below w5 (.cells #[.int .i64 m] 3);have hrow6:=(Rw.grown HST4.out.row hgr5 (fun j hj e=>hrne (by rw [hj,← e]))).keep hA6;have h16:=one_at w5 m;have hb6:=hb5.trans (hA6.mono hb5.size))|(at_builtin;go_must (refine ints_append h16 rfl (.tmp 39) (.tmp 41) rfl w.heap.size _ out rfl rfl hrow6 hb6.size (by simp only [List.length_singleton];omega) ?_);intro v7 w7 q1 q2 q3))
      obtain ⟨he,hc2,hmi2⟩:=HN.out
      have hst4:=HST4.out
      have hne:∀ b,(Value.slice ra out.length rc).ownBlock=some b → b ≠ w.heap.size∧b ≠ w.heap.size+2:=fun b hb=>⟨fun e=>row_blk_ne hst4.row hst4.kc (by decide) (by rw [hb,e]),fun e=>row_blk_ne hst4.row hst4.ko (by decide) (by rw [hb,e])⟩
      have hge:∀ b,(Value.slice ra out.length rc).ownBlock=some b → w.heap.size≤b:=fun b hb=>(World.ownsRow.lt hst4.row b hb).1
      have hown6:=own_keep hA6 hown5
      have hown7:=hown6.kept q2 (fun e=>hrne e.symm)
      obtain ⟨va,vc,rfl⟩:=q1.slice
      go_roundw
      case rel=>exact ⟨_,dn.set m true,⟨((hst4.kc.grown hgr5 (by simp)).keep hA6).grown q2 (fun e=>(hne _ e).1 rfl),((hst4.ko.grown hgr5 (by simp)).keep hA6).grown q2 (fun e=>(hne _ e).2 rfl),⟨_,hown7,hmi2⟩,q1,hb6.grown q2 (by have:=hb6.size;omega) hge,by rw [List.length_set];exact hst4.len,he,hc2⟩⟩
      case measure=>simp only [lnV,List.length_append,List.length_singleton];omega
    ·have hc0:dn.count false=0:=by omega
     have hcp:¬ (0:Int)<((dn.count false:Nat):Int):=by omega
     have hend:ordC gs=out:=by rw [hst.eq,ordGo_end (by rw [hst.len];exact nxt_full hst.len hc0),List.append_nil]
     have hsch:schB gs=true:=by unfold schB;rw [hend];simp;omega
     have HS:=Lib.hid (And.intro hsch hend)
     have hrow:=hst.row
     have hbel:=hst.bel
     clear hst hmi hsch hend
     go_wp2_with (at_len;refine wpList_len_own _ rfl _ 324 rfl 3 4 Tryz.underlying324 _ (w.heap.size+1) gs.length D rfl hown ?_;rw [hsz])
     go_ret2
     refine ⟨.slice ra out.length rc,by rw [HS.out.1];rfl,?_,hbel⟩
     rw [schL_yes HS.out.1,HS.out.2]
     exact hrow
end Go.Proofs.YtbljmfcifljkaaaGreatDoor
