/-
  The reference's order of the combining gates. Own work.
-/
import Derived.Test.YtbljmfcifljkaaaGreatDoorXAI
import Derived.Test.YtbljmfcifljkaaaGreatDoorXAK
set_option linter.all false
set_option maxRecDepth 100000
set_option maxHeartbeats 8000000
namespace Go.Proofs.YtbljmfcifljkaaaGreatDoor
open Go.RowKit
set_option maxRecDepth 100000
set_option maxHeartbeats 2000000
def dn0 (gs:List GtI):List Bool:=gs.map fun g=>!cmbB g
def ordC (gs:List GtI):List Int:=ordGo (gs.map ndsG) (gs.length+1) (dn0 gs)
def lnV:Value → Nat
 | .slice _ n _=>n
 | _=>0
theorem take_upB (xs ys:List Bool) (k:Nat) (hl:ys.length=xs.length) (hk:k<xs.length):(xs.take k ++ ys.drop k).set k xs[k]=xs.take (k+1) ++ ys.drop (k+1):=by
 have h1:(xs.take k).length=k:=by rw [List.length_take];omega
 rw [List.set_append_right _ _ (by omega),h1,Nat.sub_self,List.drop_eq_getElem_cons (by omega:k<ys.length),List.set_cons_zero,List.take_succ_eq_append_getElem hk,List.append_assoc]
 rfl
theorem rdy_snoc {zs:List Int} {dn:List Bool} {j:Nat} (hj:j<zs.length):rdyB (zs.take (j+1)) dn=(rdyB (zs.take j) dn && dn.getD zs[j].toNat true):=by
 unfold rdyB
 rw [List.take_succ_eq_append_getElem hj,List.all_append]
 simp
theorem opsG_in {p inp:Int} {n:Nat} {g:GtI} (h:gateB p inp n g=true):∀ z ∈ opsG g,0≤z∧z<n:=by
 unfold gateB at h
 rw [Bool.and_eq_true] at h
 intro z hz
 have:=List.all_eq_true.1 h.1 z hz
 simp only [inB,Bool.and_eq_true,decide_eq_true_eq] at this
 omega
structure OrSt (w:World) (nd:List (List Int)) (gs:List GtI) (cs:Array Value) (G:Nat) (wr:World) (rv:Value) (out:List Int) (dn:List Bool):Prop where
 kc:Bk wr w.heap.size 112 cs
 bk:BlB wr G dn
 row:Rw wr w.heap.size rv out
 bel:Below w.heap.size w wr
 len:dn.length=gs.length
 eq:ordGo nd (gs.length+1) (dn0 gs)=out ++ ordGo nd (gs.length+1 - out.length) dn
 cnt:out.length+dn.count false≤gs.length
 cmb:∀ k,∀ h:k<gs.length,dn[k]?=some false → cmbB (gs[k]'h)=true
theorem OrSt.keep {w:World} {nd:List (List Int)} {gs:List GtI} {cs:Array Value} {G:Nat} {wr w':World} {rv:Value} {out:List Int} {dn:List Bool} (h:OrSt w nd gs cs G wr rv out dn) (hb:Below wr.heap.size wr w'):OrSt w nd gs cs G w' rv out dn :=
 ⟨h.kc.keep hb,h.bk.keep hb,owns_keep hb h.row,h.bel.trans (hb.mono h.bel.size),h.len,h.eq,h.cnt,h.cmb⟩
theorem nxt_open {nd:List (List Int)} {dn:List Bool} {k m:Nat} (h:nxt nd dn k=some m) (hm:m<dn.length):dn[m]=false:=by
 have h2:=(nxt_some h).2
 cases hd:dn[m] with
 | false=>rfl
 | true=>rw [frB_done hm hd] at h2;cases h2
theorem or_next {nd:List (List Int)} {gs:List GtI} {out:List Int} {dn:List Bool} {m:Nat} (hl:dn.length=gs.length) (he:ordGo nd (gs.length+1) (dn0 gs)=out ++ ordGo nd (gs.length+1 - out.length) dn) (hc:out.length+dn.count false≤gs.length)
  (h:nxt nd dn gs.length=some m):ordGo nd (gs.length+1) (dn0 gs)=(out ++ [(m:Int)]) ++ ordGo nd (gs.length+1 - (out ++ [(m:Int)]).length) (dn.set m true)∧(out ++ [(m:Int)]).length+(dn.set m true).count false≤gs.length:=by
 rw [← hl] at h
 have hm:=(nxt_some h).1
 have hd:=nxt_open h hm
 have hcs:=dn_count hm hd
 have e1:(out ++ [(m:Int)]).length=out.length+1:=by simp
 refine ⟨?_,by rw [e1];omega⟩
 rw [he,e1,show gs.length+1 - out.length=(gs.length+1 - (out.length+1))+1 by omega,ordGo_step h,List.append_assoc]
 rfl
theorem crOrder_any (p inp:Int) (vo vg:Value) (gs:List GtI) (w:World) (hg:GtsAt w vg gs) (hl:gs.length≤40) (hok:∀ g ∈ gs,gateB p inp gs.length g=true) :
  Calls Tryz.prog 204 #[.agg #[.int .i64 inp,vg,vo]] w (RwP (ordC gs) w):=by
 obtain ⟨a,cap,rfl,hc,hat⟩:=hg
 obtain ⟨i0,hi,hz0,hz1,hz2⟩:=info_parts infoBool
 have hA:=alloc_below w (.cells #[.int .i64 inp,.slice a gs.length cap,vo] 112)
 have kC:=Bk.new w 112 #[.int .i64 inp,.slice a gs.length cap,vo]
 have hzA:(w.alloc (.cells #[.int .i64 inp,.slice a gs.length cap,vo] 112)).heap.size=w.heap.size+1:=by simp
 go_enter Tryz.func204,Tryz.ntmps204
 go_wp2_with (at_make;refine wpList_make_full _ rfl _ _ _ rfl (w.heap.size+1) 4 i0 _ 1 Tryz.underlying307 hi hz0 hz1 _ _ _ _ gs.length rfl rfl rfl rfl (by rw [hz2];omega) (by unfold maxLen;omega) (by simp) ?_;intro w1 hown hgr;have hb1:Below (w.alloc (.cells #[.int .i64 inp,.slice a gs.length cap,vo] 112)).heap.size (w.alloc (.cells #[.int .i64 inp,.slice a gs.length cap,vo] 112)) w1:=(Below.refl _ _).grown hgr (Nat.le_refl _) (by simp);have kC1:=kC.keep hb1;obtain ⟨x0,xf,xz⟩:=kC1.cell;have x1:=x0 1;simp only [List.getElem?_toArray,List.getElem?_cons_zero,List.getElem?_cons_succ] at x1)
 have hzm:=made_flat (f:=bCell) false gs.length (sz:=1) (by omega) rfl
 have hbk:BlB w1 (w.heap.size+1) (List.replicate gs.length false):=by
  rw [hzA] at hown
  refine bls_bk (B:=w.heap.size+1) (n:=gs.length) (by simp) ?_
  rw [← hzm]
  exact hown
 have hB1:Below w.heap.size w w1:=hA.trans (hb1.mono hA.size)
 clear hown hgr hzm hb1 kC x0 xf xz x1 hi hz0 hz1 hz2
 go_loopw [20] (fun i wr=>∃ k:Nat,k≤gs.length∧i=.int .i64 k∧BlB wr (w.heap.size+1) ((dn0 gs).take k ++ (List.replicate gs.length false).drop k)∧Below w.heap.size w wr∧Bk wr w.heap.size 112 #[.int .i64 inp,.slice a gs.length cap,vo]) (fun i _=>gs.length - (intOf i).toNat)
 case atStart=>exact ⟨0,Nat.zero_le _,rfl,by simpa using hbk,hB1,kC1⟩
 case round =>
  clear hbk hB1 kC1
  obtain ⟨k,hk,rfl,hbk,hbel,kc⟩:=hrel
  by_cases hlk:k<gs.length
  ·obtain ⟨b,o,rfl,_,hgt⟩:=hat k hlk
   obtain ⟨c0,c1,c2,c3⟩:=hgt.keep hbel
   have hup:=take_upB (dn0 gs) (List.replicate gs.length false) k (by simp [dn0]) (by simpa [dn0] using hlk)
   have hdk:(dn0 gs)[k]'(by simpa [dn0] using hlk)=!cmbB gs[k]:=by simp [dn0]
   rw [hdk] at hup
   obtain ⟨g,hgk⟩:∃ g,gs[k]=g:=⟨_,rfl⟩
   rw [hgk] at c0 c1 c2 c3 hup
   obtain ⟨kd,ga,gb,gv⟩:=g
   simp only at c0 c1 c2 c3
   have bz:=cell_lt c0
   have hA2:=alloc_below wr (.cells #[.int .i64 kd,.int .i64 ga,.int .i64 gb,.int .i64 gv] 203)
   have hcmb:=crCombines_any ⟨kd,ga,gb,gv⟩ (wr.alloc (.cells #[.int .i64 kd,.int .i64 ga,.int .i64 gb,.int .i64 gv] 203))
   simp only [gtV] at hcmb
   have HC:=Lib.hid hcmb
   have hlen:((dn0 gs).take k ++ (List.replicate gs.length false).drop k).length=gs.length:=by simp [dn0];omega
   obtain ⟨cb,hcb⟩:∃ cb,cmbB ⟨kd,ga,gb,gv⟩=cb:=⟨_,rfl⟩
   rw [hcb] at HC hup
   generalize (dn0 gs).take k ++ (List.replicate gs.length false).drop k=bs at hbk hup hlen
   have HU:=Lib.hid hup
   have HLN:=Lib.hid hlen
   clear hup hcb hcmb hdk hgk hat hlen
   go_wp2_with fail
   refine HC.out.mono ?_
   rintro e w2 ⟨rfl,hb2⟩
   have hb3:=hA2.trans (hb2.mono hA2.size)
   have hbk2:=hbk.keep hb3
   have d0:=hbk2.get k (by rw [HLN.out];exact hlk)
   have f0:=hbk2.frz k
   have gz:=hbk2.lt
   have hst:=hbk2.set k (!cb)
   rw [HU.out] at hst
   have HST:=Lib.hid hst
   have hbel2:=hbel.trans (hb3.mono hbel.size)
   have kc2:=(kc.keep hb3).other ⟨w.heap.size+1,k,none⟩ (.bool !cb) (by simp)
   generalize (bs[k]'(by rw [HLN.out];exact hlk))=old at d0
   clear hst hbk hbk2 hb2 hb3 hA2 kc
   go_wp2_with fail
   go_roundw
   case rel=>exact ⟨k+1,by omega,by go_num,HST.out,hbel2.setCell (by simp) _,kc2⟩
   case measure=>simp [intOf];omega
  ·obtain rfl:k=gs.length:=by omega
   have e0:(dn0 gs).take gs.length ++ (List.replicate gs.length false).drop gs.length=dn0 gs:=by rw [List.take_of_length_le (by simp [dn0]),List.drop_of_length_le (by simp),List.append_nil]
   rw [e0] at hbk
   have hst:OrSt w (gs.map ndsG) gs #[.int .i64 inp,.slice a gs.length cap,vo] (w.heap.size+1) wr (.slice none 0 0) [] (dn0 gs):=⟨kc,hbk,World.ownsRow_nil _ _ _ _,hbel,by simp [dn0],by simp,by
    have:=List.count_le_length (a:=false) (l:=dn0 gs)
    have h2:(dn0 gs).length=gs.length:=by simp [dn0]
    simp only [List.length_nil];omega,fun k hk h=>by
    simp only [dn0,List.getElem?_map,List.getElem?_eq_getElem hk,Option.map_some,Option.some.injEq] at h
    simpa using h⟩
   have HND:Hid (∀ k,∀ h:k<gs.length,(gs.map ndsG).getD k []=ndsG (gs[k]'h)):=Lib.hid (fun k h=>by simp [List.getD_eq_getElem?_getD,h])
   have HRES:Hid (ordC gs=ordGo (gs.map ndsG) (gs.length+1) (dn0 gs)):=Lib.hid rfl
   generalize gs.map ndsG=nd at hst HND HRES
   clear e0 hbk kc hbel hA hzA hk hlk
   go_wp2_with fail
   generalize wr=wo at *
   go_loopw [3] (fun rv wr=>∃ out dn,OrSt w nd gs #[.int .i64 inp,.slice a gs.length cap,vo] (w.heap.size+1) wr rv out dn) (fun rv _=>gs.length+1 - lnV rv)
   case atStart=>exact ⟨_,_,hst⟩
   case round =>
    clear hst
    obtain ⟨out,dn,hst⟩:=hrel
    obtain ⟨ra,rc,rfl⟩:=hst.row.slice
    obtain ⟨x0,xf,xz⟩:=hst.kc.cell
    have x1:=x0 1
    simp only [List.getElem?_toArray,List.getElem?_cons_zero,List.getElem?_cons_succ] at x1
    go_wp2_with fail
    clear x0 x1 xf xz
    generalize wr=wo at *
    go_loopw [7,35] (fun av i wr=>∃ k:Nat,k≤gs.length∧i=.int .i64 k∧av=.int .i64 (nxtV (nxt nd dn k))∧OrSt w nd gs #[.int .i64 inp,.slice a gs.length cap,vo] (w.heap.size+1) wr (.slice ra out.length rc) out dn) (fun _ i _=>gs.length - (intOf i).toNat)
    case atStart=>exact ⟨0,Nat.zero_le _,rfl,rfl,hst⟩
    case round =>
     clear hst
     obtain ⟨k,hk,rfl,rfl,hst⟩:=hrel
     by_cases hlk:k<gs.length
     ·obtain ⟨b,o,rfl,_,hgt⟩:=hat k hlk
      obtain ⟨c0,c1,c2,c3⟩:=hgt.keep hst.bel
      have hnd:=HND.out k hlk
      have hcm:=hst.cmb k hlk
      have hgok:=opsG_in (hok _ (List.getElem_mem hlk))
      have hkd:k<dn.length:=by rw [hst.len];exact hlk
      obtain ⟨g,hgk⟩:∃ g,gs[k]=g:=⟨_,rfl⟩
      rw [hgk] at c0 c1 c2 c3 hnd hcm hgok
      obtain ⟨kd,ga,gb,gv⟩:=g
      simp only at c0 c1 c2 c3
      have bz:=cell_lt c0
      have hA2:=alloc_below wr (.cells #[.int .i64 kd,.int .i64 ga,.int .i64 gb,.int .i64 gv] 203)
      have kG:=Bk.new wr 203 #[.int .i64 kd,.int .i64 ga,.int .i64 gb,.int .i64 gv]
      have hst2:=hst.keep hA2
      have hD:=hst2.bk.get k hkd
      have gz:=hst2.bk.lt
      have d0:=hst.bk.get k hkd
      have gz0:=hst.bk.lt
      cases hdk:dn[k] with
      | true =>
       have hf:=frB_done (nd:=nd) hkd hdk
       have HN:=Lib.hid (nxt_no hf)
       rw [hdk] at d0
       have HST:=Lib.hid hst2
       clear hst hst2 hD hat hgk hnd hcm hgok hdk hf hA2 kG
       go_wp2
       go_roundw
       case rel=>exact ⟨k+1,by omega,by go_num,by rw [HN.out],HST.out⟩
       case measure=>simp [intOf];omega
      | false =>
       rw [hdk] at d0
       cases hnx:nxt nd dn k with
       | some m =>
        have HN:=Lib.hid (nxt_had hnx)
        have hm0:¬ ((m:Int)<0):=by omega
        have hm1:(0:Int)≤(m:Int):=by omega
        have HST:=Lib.hid hst2
        rw [show nxtV (some m)=(m:Int) from rfl]
        clear hst hst2 hD hat hgk hnd hcm hgok hdk hA2 kG hnx
        go_wp2
        go_roundw
        case rel=>exact ⟨k+1,by omega,by go_num,by rw [HN.out];rfl,HST.out⟩
        case measure=>simp [intOf];omega
       | none =>
        have hf:=frB_open (nd:=nd) hkd hdk
        rw [hnd] at hf
        have hcb:cmbB ⟨kd,ga,gb,gv⟩=true:=hcm (by rw [List.getElem?_eq_getElem hkd,hdk])
        have hnz:ndsG ⟨kd,ga,gb,gv⟩=opsG ⟨kd,ga,gb,gv⟩:=by unfold ndsG;rw [if_pos hcb]
        rw [hnz] at hf
        have hops:=fun W=>crOperands_any ⟨kd,ga,gb,gv⟩ W
        have hol:=opsG_len ⟨kd,ga,gb,gv⟩
        obtain ⟨zs,hzs⟩:∃ zs,opsG ⟨kd,ga,gb,gv⟩=zs:=⟨_,rfl⟩
        rw [hzs] at hf hops hol hgok
        simp only [gtV] at hops
        have HO:=Lib.hid hops
        have HF:=Lib.hid hf
        have HNX:=Lib.hid hnx
        have HIN:=Lib.hid hgok
        rw [show nxtV none=(-1:Int) from rfl]
        have kg2:=kG.cell
        obtain ⟨g0,gf,gzz⟩:=kg2
        have g1:=g0 1
        have g2:=g0 2
        have g3:=g0 3
        have g0:=g0 0
        simp only [List.getElem?_toArray,List.getElem?_cons_zero,List.getElem?_cons_succ] at g0 g1 g2 g3
        clear hst hD hat hgk hnd hcm hgok hdk hnx hf hops hzs hnz hcb kG
        go_wp2_with fail
        refine (HO.out _).mono ?_
        rintro e w3 ⟨u,rfl,hu,hb3⟩
        have hst3:=hst2.keep hb3
        clear hst2 hA2 d0 gz0 g0 g1 g2 g3 gf gzz hb3
        obtain ⟨ua,uc,rfl,huc,hut⟩:=hu.at
        go_wp2_with fail
        generalize wr=wo2 at *
        go_loopw [10,51] (fun rd i wr=>∃ j:Nat,j≤zs.length∧i=.int .i64 j∧rd=.bool (rdyB (zs.take j) dn)∧OrSt w nd gs #[.int .i64 inp,.slice (some ⟨b,o,none⟩) gs.length cap,vo] (w.heap.size+1) wr (.slice ra out.length rc) out dn∧Below w3.heap.size w3 wr) (fun _ i _=>zs.length - (intOf i).toNat)
        case atStart=>exact ⟨0,Nat.zero_le _,rfl,rfl,hst3,Below.refl _ _⟩
        case round =>
         clear hst3
         obtain ⟨j,hj,rfl,rfl,hst,hbw⟩:=hrel
         by_cases hlj:j<zs.length
         ·obtain ⟨b4,o4,rfl,_,z0⟩:=hut j hlj
          rw [Nat.mul_one] at z0
          replace z0:=cell_keep hbw z0
          have zr:=HIN.out _ (List.getElem_mem hlj)
          have hsn:=@rdy_snoc zs dn j hlj
          obtain ⟨z,hz⟩:∃ z,zs[j]=z:=⟨_,rfl⟩
          rw [hz] at z0 zr hsn
          obtain ⟨m,rfl⟩:∃ m:Nat,z=m:=⟨z.toNat,by omega⟩
          have hm:m<dn.length:=by rw [hst.len];omega
          have hm2:m<gs.length:=by omega
          have bD:=hst.bk.get m hm
          have bDz:=hst.bk.lt
          have z0z:=cell_lt z0
          rw [Int.toNat_natCast,List.getD_eq_getElem?_getD,List.getElem?_eq_getElem hm,Option.getD_some] at hsn
          generalize dn[m]=bm at hsn bD
          have HSN:=Lib.hid hsn
          have HST:=Lib.hid hst
          clear hst hut hz hsn
          cases hrd:rdyB (zs.take j) dn with
          | true =>
           rw [hrd] at HSN
           clear hrd
           go_wp2
           go_roundw
           case rel=>exact ⟨j+1,by omega,by go_num,by rw [HSN.out];rfl,HST.out,hbw⟩
           case measure=>simp [intOf];omega
          | false =>
           rw [hrd] at HSN
           clear hrd
           go_wp2
           go_roundw
           case rel=>exact ⟨j+1,by omega,by go_num,by rw [HSN.out];rfl,HST.out,hbw⟩
           case measure=>simp [intOf];omega
         ·obtain rfl:j=zs.length:=by omega
          rw [List.take_length]
          have HST:=Lib.hid hst
          clear hst hut
          cases hrd:rdyB zs dn with
          | true =>
           have HN:=Lib.hid (nxt_yes HNX.out (HF.out.trans hrd))
           clear hrd
           go_wp2
           go_roundw
           case rel=>exact ⟨k+1,by omega,by go_num,by rw [HN.out];rfl,HST.out⟩
           case measure=>simp [intOf];omega
          | false =>
           have HN:=Lib.hid ((nxt_no (HF.out.trans hrd)).trans HNX.out)
           clear hrd
           go_wp2
           go_roundw
           case rel=>exact ⟨k+1,by omega,by go_num,by rw [HN.out];rfl,HST.out⟩
           case measure=>simp [intOf];omega
     ·obtain rfl:k=gs.length:=by omega
      cases hnx:nxt nd dn gs.length with
      | none =>
       have hend:ordC gs=out:=by
        rw [HRES.out,hst.eq,ordGo_end (by rw [hst.len];exact hnx),List.append_nil]
       have HE:=Lib.hid hend
       have hrow:=hst.row
       have hbel:=hst.bel
       rw [show nxtV none=(-1:Int) from rfl]
       clear hst hnx hend hat
       go_wp2
       go_ret
       rw [HE.out]
       exact ⟨_,rfl,hrow,hbel⟩
      | some m =>
       have hm:=(nxt_some hnx).1
       have hm0:¬ ((m:Int)<0):=by omega
       have hmd:m<dn.length:=by rw [hst.len];exact hm
       obtain ⟨he,hc⟩:=or_next hst.len hst.eq hst.cnt hnx
       have bD:=hst.bk.get m hmd
       have bf:=hst.bk.frz m
       have bz:=hst.bk.lt
       have bs:=hst.bk.set m true
       have hrne:=row_blk_ne hst.row hst.bk (by decide)
       have hrow1:Rw (wr.setCell ⟨w.heap.size+1,m,none⟩ (.bool true)) w.heap.size (.slice ra out.length rc) out:=owns_other hst.row _ _ hrne
       have hB1:Below w.heap.size w (wr.setCell ⟨w.heap.size+1,m,none⟩ (.bool true)):=hst.bel.setCell (by simp) _
       have kc1:Bk (wr.setCell ⟨w.heap.size+1,m,none⟩ (.bool true)) w.heap.size 112 #[.int .i64 inp,.slice a gs.length cap,vo]:=hst.kc.other ⟨w.heap.size+1,m,none⟩ (.bool true) (by simp)
       have hcmb:=hst.cmb
       have hlen:=hst.len
       have hold:=nxt_open hnx hmd
       rw [hold] at bD
       rw [show nxtV (some m)=(m:Int) from rfl]
       have hcnt:=hst.cnt
       have hzz:(wr.setCell ⟨w.heap.size+1,m,none⟩ (.bool true)).heap.size=wr.heap.size:=by simp
       have h1:=one_at (wr.setCell ⟨w.heap.size+1,m,none⟩ (.bool true)) m
       have hA3:=alloc_below (wr.setCell ⟨w.heap.size+1,m,none⟩ (.bool true)) (.cells #[.int .i64 m] 3)
       have hrow2:=hrow1.keep hA3
       have hB2:=hB1.trans (hA3.mono hB1.size)
       have hbk2:=BlB.keep hA3 bs
       have kc2:=kc1.keep hA3
       rw [hzz] at h1
       have hsz2:=hB2.size
       have HE:=Lib.hid (And.intro he hc)
       have HCM:Hid (∀ k,∀ h:k<gs.length,(dn.set m true)[k]?=some false → cmbB (gs[k]'h)=true):=Lib.hid (fun k h hh=>by
        refine hcmb k h ?_
        rw [List.getElem?_set] at hh
        split at hh
        ·first|(simp at hh;done)|(split at hh <;> simp at hh)
        ·exact hh)
       have HKC:=Lib.hid (And.intro kc2 hbk2)
       have hapart:=row_blk_ne hrow2 hbk2 (by decide)
       have hapart2:=row_blk_ne hrow2 kc2 (by decide)
       have hbz:=hbk2.lt
       have hkz:=kc2.lt
       clear hst hnx hold he hc hat hrow1 hB1 kc1 bs hcmb hA3 kc2 hbk2
       go_wp2_with (at_builtin;go_must (refine ints_append h1 rfl (.tmp 72) (.tmp 74) rfl w.heap.size _ out rfl rfl hrow2 hsz2 (by simp only [List.length_singleton];omega) ?_);intro v2 w2 q1 q2 q3)
       have hb4:Below w.heap.size w w2:=hB2.grown q2 hsz2 (fun j hj=>(World.ownsRow.lt hrow2 j hj).1)
       have hk3:=Bk.grown q2 HKC.out.1 hapart2
       have hk4:BlB w2 (w.heap.size+1) (dn.set m true):=Bk.grown q2 HKC.out.2 hapart
       obtain ⟨va,vc,rfl⟩:=q1.slice
       go_roundw
       case rel=>exact ⟨out ++ [(m:Int)],dn.set m true,hk3,hk4,q1,hb4,by rw [List.length_set];exact hlen,HE.out.1,HE.out.2,HCM.out⟩
       case measure=>simp [lnV];omega
end Go.Proofs.YtbljmfcifljkaaaGreatDoor
/-
  The reference's order of edges. Own work.
-/
namespace Go.Proofs.YtbljmfcifljkaaaGreatDoor
open Go.RowKit
set_option maxRecDepth 100000
set_option maxHeartbeats 2000000
def meetB (xs ys:List Int):Bool:=xs.any fun w=>decide (w ∈ ys)
theorem hgMeets_any (v u:Value) (xs ys:List Int) (w:World) (hv:IntsAt w v xs) (hu:IntsAt w u ys) (hn:xs.length≤1048576) (hm:ys.length≤1048576) :
  Calls Tryz.prog 307 #[v,u] w fun e w'=>e=.returned (.bool (meetB xs ys))∧w=w':=by
 obtain ⟨a,cap,rfl,hc,hat⟩:=hv
 obtain ⟨ua,uc,rfl⟩:=hu.slice
 have HU:=Lib.hid hu
 clear hu
 go_enter Tryz.func307,Tryz.ntmps307
 go_wp2
 go_loopw [9] (fun i wr=>∃ k:Nat,k≤xs.length∧i=.int .i64 k∧wr=w∧∀ j,∀ h:j<xs.length,j<k → decide ((xs[j]'h) ∈ ys)=false) (fun i _=>xs.length - (intOf i).toNat)
 case atStart=>exact ⟨0,Nat.zero_le _,rfl,by first|rfl|trivial,fun j h1 h2=>by omega⟩
 case round =>
  obtain ⟨k,hk,rfl,hww,hall⟩:=hrel
  subst hww
  have HALL:=Lib.hid hall
  clear hall
  by_cases hlt:k<xs.length
  ·obtain ⟨b,o,rfl,_,c0⟩:=hat k hlt
   rw [Nat.mul_one] at c0
   have bz:=cell_lt c0
   cases hb:decide (xs[k] ∈ ys) with
   | true =>
    have hfin:meetB xs ys=true:=List.any_eq_true.2 ⟨_,List.getElem_mem hlt,hb⟩
    have HF:=Lib.hid hfin
    have HB:=Lib.hid hb
    clear hfin hb hat
    go_wp2_with (go_at_call 269;refine (l1Has_any _ ys _ _ HU.out hm).mono ?_;rintro r w2 ⟨rfl,rfl⟩;rw [HB.out])
    go_ret
    exact ⟨by rw [HF.out];rfl,rfl⟩
   | false =>
    have HB:=Lib.hid hb
    clear hb hat
    go_wp2_with (go_at_call 269;refine (l1Has_any _ ys _ _ HU.out hm).mono ?_;rintro r w2 ⟨rfl,rfl⟩;rw [HB.out])
    go_roundw
    case rel=>exact ⟨k+1,by omega,by go_num,by first|rfl|trivial,fun j h1 h2=>by
     rcases Nat.lt_or_ge j k with h|h
     ·exact HALL.out j h1 h
     ·obtain rfl:j=k:=by omega
      exact HB.out⟩
    case measure=>simp [intOf];omega
  ·obtain rfl:k=xs.length:=by omega
   have hfin:meetB xs ys=false:=List.any_eq_false.2 fun z hz=>by obtain ⟨j,hj,rfl⟩:=List.mem_iff_getElem.1 hz;simp [HALL.out j hj hj]
   have HF:=Lib.hid hfin
   clear hfin hat
   go_wp2
   go_ret
   exact ⟨by rw [HF.out];rfl,rfl⟩
end Go.Proofs.YtbljmfcifljkaaaGreatDoor
