/-
  The gates listed by the program. Own work.
-/
import Derived.Test.YtbljmfcifljkaaaGreatDoorXAX
import Derived.Test.YtbljmfcifljkaaaGreatDoorXAT
set_option linter.all false
set_option maxRecDepth 100000
set_option maxHeartbeats 8000000
namespace Go.Proofs.YtbljmfcifljkaaaGreatDoor
open Go.RowKit
set_option maxRecDepth 100000
set_option maxHeartbeats 2000000
def AddT (ob:Nat) (v:Value):Nat → Prop:=fun j=>j=ob∨v.ownBlock=some j
def AddP (k:Int) (ob B:Nat) (v:Value) (out:List Int) (w:World) (e:Ending) (w':World):Prop :=
 e=.returned (.tuple #[])∧∃ v',Bk w' ob 40 #[v']∧Rw w' B v' (lsAdd out k)∧Exc (AddT ob v) w w'∧(v'.ownBlock=v.ownBlock∨∃ j,v'.ownBlock=some j∧w.heap.size≤j)
theorem add_any (k:Int) (ob B:Nat) (v:Value) (out:List Int) (w:World) (ko:Bk w ob 40 #[v]) (hr:Rw w B v out) (hB:B≤w.heap.size) (hl:out.length≤1000) :
  Calls Tryz.prog 216 #[.int .i64 k,.pointer (some ⟨ob,0,none⟩)] w (AddP k ob B v out w):=by
 obtain ⟨a,c,rfl⟩:=hr.slice
 have o0:=ko.cell.1 0
 have oz:=ko.lt
 simp only [List.getElem?_toArray,List.getElem?_cons_zero] at o0
 have HC:=Lib.hid (contains_any _ out k w hr.at (by omega))
 have HKO:=Lib.hid ko
 have HR:=Lib.hid hr
 clear ko hr
 by_cases hk:k ∈ out
 ·have hd:decide (k ∈ out)=true:=by simpa using hk
  have hla:lsAdd out k=out:=by unfold lsAdd;rw [if_pos hk]
  rw [hd] at HC
  have HLA:=Lib.hid hla
  clear hk hd hla
  go_enter Tryz.func216,Tryz.ntmps216
  go_wp2_with fail
  refine HC.out.mono ?_
  rintro e w2 ⟨rfl,rfl⟩
  go_wp2
  refine bodyPost_end (v:=.tuple #[]) (by simp [results,Tryz.results216,go_sem]) rfl ?_
  exact ⟨rfl,_,HKO.out,by rw [HLA.out];exact HR.out,Exc.refl _ _,.inl rfl⟩
 ·have hd:decide (k ∈ out)=false:=by simpa using hk
  have hla:lsAdd out k=out ++ [k]:=by unfold lsAdd;rw [if_neg hk]
  rw [hd] at HC
  have HLA:=Lib.hid hla
  have h1:=one_at w k
  have hA:=alloc_below w (.cells #[.int .i64 k] 3)
  have hrow:=HR.out.keep hA
  have hko:=HKO.out.keep hA
  have hne:=row_blk_ne hrow hko (by decide)
  have hge:∀ j,(Value.slice a out.length c).ownBlock=some j → B≤j:=fun j hj=>(World.ownsRow.lt hrow j hj).1
  have HX:=Lib.hid (And.intro hne hge)
  have HL5:=Lib.hid (show (out ++ [k]).length=out.length+1 by simp)
  clear hk hd hla hne hge
  go_enter Tryz.func216,Tryz.ntmps216
  go_wp2_with fail
  refine HC.out.mono ?_
  rintro e w2 ⟨rfl,rfl⟩
  go_wp2_with (at_builtin;go_must (refine ints_append h1 rfl (.tmp 7) (.tmp 9) rfl B _ out rfl rfl hrow (by have:=hA.size;omega) (by simp only [List.length_singleton];omega) ?_);intro v5 w5 q1 q2 q3;obtain ⟨va,vc,rfl⟩:=q1.slice;rw [HL5.out] at q1 q3;have ko5:=hko.grown q2 HX.out.1;have f5:=ko5.cell.2.1 0;have y5:=ko5.cell.1 0;simp only [List.getElem?_toArray,List.getElem?_cons_zero] at y5;have z5:=ko5.lt)
  refine bodyPost_end (v:=.tuple #[]) (by simp [results,Tryz.results216,go_sem]) rfl ?_
  have hE:Exc (AddT ob (.slice a out.length c)) w w5:=(Exc.refl _ w).below hA |>.grown q2 (fun j hj=>.inr (.inr hj))
  refine ⟨rfl,_,by simpa using ko5.set 0 (.slice va (out.length+1) vc),?_,exc_set hE (.inr (.inl rfl)) _,?_⟩
  ·rw [HLA.out]
   exact q1.setB ko5 (by decide) 0 _
  ·rcases q3 with q3|q3
   ·exact .inl q3
   ·exact .inr ⟨_,q3,by rw [World.size_alloc];omega⟩
structure LsS (w:World) (cs:Array Value) (wr:World) (v:Value) (out:List Int):Prop where
 kc:Bk wr w.heap.size 112 cs
 ko:Bk wr (w.heap.size+2) 40 #[v]
 row:Rw wr w.heap.size v out
 bel:Below w.heap.size w wr
theorem LsS.keep {w:World} {cs:Array Value} {wr w':World} {v:Value} {out:List Int} (h:LsS w cs wr v out) (hb:Below wr.heap.size wr w'):LsS w cs w' v out :=
 ⟨h.kc.keep hb,h.ko.keep hb,h.row.keep hb,h.bel.trans (hb.mono h.bel.size)⟩
theorem LsS.exc {w:World} {cs:Array Value} {wr w':World} {v v':Value} {out out':List Int} (h:LsS w cs wr v out) (hx:Exc (AddT (w.heap.size+2) v) wr w') (ko:Bk w' (w.heap.size+2) 40 #[v']) (hr:Rw w' w.heap.size v' out'):LsS w cs w' v' out':=by
 refine ⟨h.kc.exc hx ?_,ko,hr,h.bel.trans (below_exc hx h.bel.size ?_)⟩
 ·rintro (e|e)
  ·omega
  ·exact row_blk_ne h.row h.kc (by decide) e
 ·rintro j (e|e)
  ·omega
  ·exact (World.ownsRow.lt h.row j e).1
theorem LsS.other {w:World} {cs:Array Value} {wr w':World} {v u:Value} {out l:List Int} {B:Nat} (h:LsS w cs wr v out) (hx:Exc (AddT (w.heap.size+2) v) wr w') (hu:Rw wr B u l) (ha:∀ j,u.ownBlock=some j → v.ownBlock ≠ some j):Rw w' B u l :=
 owns_exc hx hu fun j hj=>by
  rintro (e|e)
  ·exact row_blk_ne hu h.ko (by decide) (by rw [hj,e])
  ·exact ha j hj e
theorem ap_next {wr:World} {v v' u:Value} {l:List Int} {B:Nat} (hu:Rw wr B u l) (ha:∀ j,u.ownBlock=some j → v.ownBlock ≠ some j) (hv:v'.ownBlock=v.ownBlock∨∃ j,v'.ownBlock=some j∧wr.heap.size≤j):∀ j,u.ownBlock=some j → v'.ownBlock ≠ some j:=by
 intro j hj e
 rcases hv with hv|⟨j',hv,hle⟩
 ·exact ha j hj (hv ▸ e)
 ·rw [hv] at e
  have h1:=Option.some.inj e
  have:=(World.ownsRow.lt hu j hj).2
  omega
theorem ap_fresh {wr w1:World} {v u:Value} {out l:List Int} {B:Nat} (hv:Rw wr B v out) (hu:Rw w1 wr.heap.size u l):∀ j,u.ownBlock=some j → v.ownBlock ≠ some j:=by
 intro j hj e
 have h1:=(World.ownsRow.lt hv j e).2
 have h2:=(World.ownsRow.lt hu j hj).1
 omega
theorem lsOps_succ (gs:List GtI) (out:List Int) (i:Int) {k:Nat} (hk:k<(opsG (gNo gs i)).length):lsOps gs out i (k+1)=lsOp gs (lsOps gs out i k) (opsG (gNo gs i))[k]:=foldl_take _ _ _ hk
theorem ls2_succ (gs:List GtI) {k:Nat} (hk:k<(dlyL gs).length):ls2 gs (k+1)=lsAdd (ls2 gs k) (gNo gs (dlyL gs)[k]).a:=foldl_take _ _ _ hk
theorem ls3_succ (gs:List GtI) (os:List Int) {k:Nat} (hk:k<os.length):ls3 gs os (k+1)=lsAdd (ls3 gs os k) os[k]:=foldl_take _ _ _ hk
theorem ls_small {p inp:Int} {gs:List GtI} {os out:List Int} (h:CiOk p inp gs os) (ho:LsOk gs out):out.length≤40:=Nat.le_trans (nodup_len ho.nd ho.rg) h.len.2
theorem lsOps_ok {p inp:Int} {gs:List GtI} {os:List Int} (h:CiOk p inp gs os) {j:Nat} (hj:j<(ordC gs).length) (k:Nat):LsOk gs (lsOps gs (ls1 gs j) (ordC gs)[j] k):=by
 obtain ⟨i,e,hi,hc⟩:=ordC_open (List.getElem_mem hj)
 have hr:=ci_ops h (i:=i) (by omega) (by omega)
 unfold lsOps
 refine foldl_inv _ _ (ls1_ok h j (by omega)) (fun x b hx hb=>?_)
 unfold lsOp
 split
 ·exact hb
 ·rename_i hcx
  have:=hr x (by rw [← e];exact List.mem_of_mem_take hx)
  refine hb.add this.1 this.2 (.inr ?_)
  rw [nds_not (by simpa using hcx)]
  simp
theorem gNo_get {gs:List GtI} {z:Nat} (hz:z<gs.length):gNo gs z=gs[z]:=by
 unfold gNo
 rw [Int.toNat_natCast,List.getD_eq_getElem?_getD,List.getElem?_eq_getElem hz];rfl
theorem ci_nds {p inp:Int} {gs:List GtI} {os:List Int} (h:CiOk p inp gs os):∀ g ∈ gs,∀ z ∈ ndsG g,0≤z∧z<gs.length:=by
 intro g hg z hz
 unfold ndsG at hz
 split at hz
 ·exact opsG_in (h.gates g hg) z hz
 ·simp at hz
theorem listed_any (p inp:Int) (vg vo:Value) (gs:List GtI) (os:List Int) (w:World) (h:CiOk p inp gs os) (hg:GtsAt w vg gs) (ho:IntsAt w vo os) :
  Calls Tryz.prog 147 #[.agg #[.int .i64 inp,vg,vo]] w (RwP (listL gs os) w):=by
 have hsch:schB gs=true:=by unfold schB;simpa using h.full
 have hlen:=h.len
 have hout:=h.outs
 have hsc:=fun (U:World) (hb:Below w.heap.size w U)=>schedule_any inp vg vo gs U (hg.keep hb) (by omega) (ci_nds h)
 have hdl:=fun (U:World) (hb:Below w.heap.size w U)=>delays_any inp vo vg gs U (hg.keep hb) (by omega)
 simp only [hsch,schL_yes hsch] at hsc
 obtain ⟨oa,oc,rfl⟩:=ho.slice
 have HO:=Lib.hid ho
 obtain ⟨a,cap,rfl,hc,hat⟩:=hg
 obtain ⟨b,o,rfl,_⟩:=hat 0 (by omega)
 have hord:(ordC gs).length≤40:=by rw [h.full];exact Nat.le_trans (List.length_filter_le _ _) hlen.2
 have hdly:(dlyL gs).length≤40:=Nat.le_trans (dlyN_len gs gs.length) hlen.2
 have hat:∀ i,∀ hi:i<gs.length,GtAt w gs[i] b (o+i * 4):=fun i hi=>by
  obtain ⟨b2,o2,e,_,hgt⟩:=hat i hi
  simp only [Option.some.injEq,Addr.mk.injEq,and_true] at e
  obtain ⟨rfl,rfl⟩:=e
  exact hgt
 have hA1:=alloc_below w (.cells #[.int .i64 inp,.slice (some ⟨b,o,none⟩) gs.length cap,.slice oa os.length oc] 112)
 have hA2:=alloc_below (w.alloc (.cells #[.int .i64 inp,.slice (some ⟨b,o,none⟩) gs.length cap,.slice oa os.length oc] 112)) (.cells #[] 3)
 have hA3:=alloc_below ((w.alloc (.cells #[.int .i64 inp,.slice (some ⟨b,o,none⟩) gs.length cap,.slice oa os.length oc] 112)).alloc (.cells #[] 3)) (.cells #[.slice (some ⟨w.heap.size+1,0,none⟩) 0 0] 40)
 have kC:=((Bk.new w 112 #[.int .i64 inp,.slice (some ⟨b,o,none⟩) gs.length cap,.slice oa os.length oc]).keep hA2).keep hA3
 have kO:=Bk.new ((w.alloc (.cells #[.int .i64 inp,.slice (some ⟨b,o,none⟩) gs.length cap,.slice oa os.length oc] 112)).alloc (.cells #[] 3)) 40 #[.slice (some ⟨w.heap.size+1,0,none⟩) 0 0]
 have hrow0:=(cg_nil (w.alloc (.cells #[.int .i64 inp,.slice (some ⟨b,o,none⟩) gs.length cap,.slice oa os.length oc] 112)) w.heap.size hA1.size).keep hA3
 simp only [World.size_alloc] at kO hrow0
 have hst:LsS w #[.int .i64 inp,.slice (some ⟨b,o,none⟩) gs.length cap,.slice oa os.length oc] (((w.alloc (.cells #[.int .i64 inp,.slice (some ⟨b,o,none⟩) gs.length cap,.slice oa os.length oc] 112)).alloc (.cells #[] 3)).alloc (.cells #[.slice (some ⟨w.heap.size+1,0,none⟩) 0 0] 40)) (.slice (some ⟨w.heap.size+1,0,none⟩) 0 0) []:=⟨kC,kO,hrow0,(hA1.trans (hA2.mono hA1.size)).trans (hA3.mono (by simp;omega))⟩
 have HSC:=Lib.hid hsc
 have HDL:=Lib.hid hdl
 have HAT:=Lib.hid hat
 clear hsc hdl hat hA1 hA2 hA3 kC kO hrow0 ho hsch
 go_enter Tryz.func147,Tryz.ntmps147
 go_wp2_with fail
 generalize (((w.alloc (.cells #[.int .i64 inp,.slice (some ⟨b,o,none⟩) gs.length cap,.slice oa os.length oc] 112)).alloc (.cells #[] 3)).alloc (.cells #[.slice (some ⟨w.heap.size+1,0,none⟩) 0 0] 40))=u0 at *
 refine (HSC.out u0 hst.bel).mono ?_
 rintro e w1 ⟨u,rfl,hu,hb1⟩
 have hap:=ap_fresh hst.row hu
 have hst1:=hst.keep hb1
 obtain ⟨ua,uc,rfl⟩:=hu.slice
 clear hst hb1
 go_wp2_with fail
 go_loopw [25] (fun i wr=>∃ k:Nat,k≤(ordC gs).length∧i=.int .i64 k∧∃ v,LsS w #[.int .i64 inp,.slice (some ⟨b,o,none⟩) gs.length cap,.slice oa os.length oc] wr v (ls1 gs k)∧Rw wr u0.heap.size (.slice ua (ordC gs).length uc) (ordC gs)∧∀ j,(Value.slice ua (ordC gs).length uc).ownBlock=some j → v.ownBlock ≠ some j) (fun i _=>(ordC gs).length - (intOf i).toNat)
 case atStart=>exact ⟨0,Nat.zero_le _,rfl,_,hst1,hu,hap⟩
 case round =>
  clear hst1 hu hap
  obtain ⟨k,hk,rfl,v,hst,hu,hap⟩:=hrel
  by_cases hlk:k<(ordC gs).length
  ·obtain ⟨ub,uo,rfl,d0⟩:=ints_cell hu.at hlk
   obtain ⟨i,hoi,hi,hcm⟩:=ordC_open (List.getElem_mem hlk)
   have hlsok:=fun k2=>lsOps_ok h hlk k2
   have hnew:=ls1_succ gs hlk
   have hops:=ci_ops h (i:=(i:Int)) (by omega) (by omega)
   rw [hoi] at d0 hlsok hnew
   have dz:=cell_lt d0
   have hgt:=HAT.out i hi
   have hopc:=fun W=>operands_any gs[i] W
   have hgi:=gNo_get hi
   obtain ⟨g,hgg⟩:∃ g,gs[i]=g:=⟨_,rfl⟩
   rw [hgg] at hgt hopc hgi
   rw [hgi] at hops
   obtain ⟨c0,c1,c2,c3⟩:=hgt.keep hst.bel
   have bz:=cell_lt c0
   have x1:=hst.kc.cell.1 1
   have xz:=hst.kc.lt
   simp only [List.getElem?_toArray,List.getElem?_cons_zero,List.getElem?_cons_succ] at x1
   have HOPC:=Lib.hid hopc
   unfold gtV at HOPC
   have HGI:=Lib.hid hgi
   have HNEW:=Lib.hid hnew
   have HLS:=Lib.hid hlsok
   have HOPS:=Lib.hid hops
   clear hopc hgi hgg hnew hlsok hops hgt hoi hcm
   go_wp2_with fail
   refine (HOPC.out wr).mono ?_
   rintro e w2 ⟨x,rfl,hx,hb2⟩
   have hap2:=ap_fresh hst.row hx
   have hst2:=hst.keep hb2
   have hu2:=hu.keep hb2
   have hol:=opsG_len g
   obtain ⟨xa,xc,rfl⟩:=hx.slice
   have hz0:lsOps gs (ls1 gs k) (i:Int) 0=ls1 gs k:=rfl
   rw [← hz0] at hst2
   clear hst hu hb2 d0 dz c0 c1 c2 c3 bz x1 xz hz0
   generalize hwz:wr.heap.size=wz at *
   clear hwz
   go_wp2_with fail
   go_loopw [36] (fun q wr=>∃ k2:Nat,k2≤(opsG g).length∧q=.int .i64 k2∧∃ v,LsS w #[.int .i64 inp,.slice (some ⟨b,o,none⟩) gs.length cap,.slice oa os.length oc] wr v (lsOps gs (ls1 gs k) (i:Int) k2)∧Rw wr u0.heap.size (.slice (some ⟨ub,uo,none⟩) (ordC gs).length uc) (ordC gs)∧(∀ j,(Value.slice (some ⟨ub,uo,none⟩) (ordC gs).length uc).ownBlock=some j → v.ownBlock ≠ some j)∧Rw wr wz (.slice xa (opsG g).length xc) (opsG g)∧∀ j,(Value.slice xa (opsG g).length xc).ownBlock=some j → v.ownBlock ≠ some j) (fun q _=>(opsG g).length - (intOf q).toNat)
   case atStart=>exact ⟨0,Nat.zero_le _,rfl,_,hst2,hu2,hap,hx,hap2⟩
   case round =>
    clear hst2 hu2 hap hx hap2
    obtain ⟨k2,hk2,rfl,v2,hst,hu,hap,hx,hap2⟩:=hrel
    have hsmall:=ls_small h (HLS.out k2)
    by_cases hlk2:k2<(opsG g).length
    ·obtain ⟨xb,xo,rfl,d0⟩:=ints_cell hx.at hlk2
     have hzr:=HOPS.out _ (List.getElem_mem hlk2)
     have hnx:=lsOps_succ gs (ls1 gs k) (i:Int) (k:=k2) (by rw [HGI.out];exact hlk2)
     have hzz:(opsG (gNo gs (i:Int)))[k2]'(by rw [HGI.out];exact hlk2)=(opsG g)[k2]:=by simp only [HGI.out]
     rw [hzz] at hnx
     obtain ⟨z,hz⟩:∃ z:Nat,(opsG g)[k2]=z:=⟨((opsG g)[k2]).toNat,by omega⟩
     rw [hz] at d0 hzr hnx
     have hzl:z<gs.length:=by omega
     have hgt:=HAT.out z hzl
     have c0:=(hgt.keep hst.bel).1
     unfold lsOp at hnx
     rw [gNo_get hzl] at hnx
     obtain ⟨kd,hkd⟩:∃ kd,(gs[z]).kind=kd:=⟨_,rfl⟩
     rw [hkd] at c0
     have hcb:cmbB gs[z]=(decide (kd=3) || decide (kd=4)):=by unfold cmbB;rw [hkd]
     rw [hcb] at hnx
     have dz:=cell_lt d0
     have bz:=cell_lt c0
     have x1:=hst.kc.cell.1 1
     have xz:=hst.kc.lt
     simp only [List.getElem?_toArray,List.getElem?_cons_zero,List.getElem?_cons_succ] at x1
     clear hz hzz hkd hcb hgt
     by_cases h3:kd=3
     ·subst h3
      have HNX:=Lib.hid (by simpa using hnx:lsOps gs (ls1 gs k) (i:Int) (k2+1)=lsOps gs (ls1 gs k) (i:Int) k2)
      clear hnx
      go_wp2
      go_roundw
      case rel=>exact ⟨k2+1,by omega,by go_num,_,by rw [HNX.out];exact hst,hu,hap,hx,hap2⟩
      case measure=>simp [intOf];omega
     by_cases h4:kd=4
     ·subst h4
      have HNX:=Lib.hid (by simpa using hnx:lsOps gs (ls1 gs k) (i:Int) (k2+1)=lsOps gs (ls1 gs k) (i:Int) k2)
      clear hnx
      go_wp2
      go_roundw
      case rel=>exact ⟨k2+1,by omega,by go_num,_,by rw [HNX.out];exact hst,hu,hap,hx,hap2⟩
      case measure=>simp [intOf];omega
     have HNX:=Lib.hid (by simpa [h3,h4] using hnx:lsOps gs (ls1 gs k) (i:Int) (k2+1)=lsAdd (lsOps gs (ls1 gs k) (i:Int) k2) z)
     have e3:(kd != 3)=true:=by simp [h3]
     have e4:(kd != 4)=true:=by simp [h4]
     clear hnx h3 h4
     go_wp2_with fail
     refine (add_any (z:Int) (w.heap.size+2) w.heap.size v2 _ wr hst.ko hst.row hst.bel.size (by omega)).mono ?_
     rintro e w3 ⟨rfl,v3,ko3,hr3,hx3,hv3⟩
     have hst3:=hst.exc hx3 ko3 hr3
     have hu3:=hst.other hx3 hu hap
     have hxx3:=hst.other hx3 hx hap2
     have hap3:=ap_next hu hap hv3
     have hap4:=ap_next hx hap2 hv3
     go_wp2
     go_roundw
     case rel=>exact ⟨k2+1,by omega,by go_num,_,by rw [HNX.out];exact hst3,hu3,hap3,hxx3,hap4⟩
     case measure=>simp [intOf];omega
    ·obtain rfl:k2=(opsG g).length:=by omega
     have hnew:ls1 gs (k+1)=lsAdd (lsOps gs (ls1 gs k) (i:Int) (opsG g).length) i:=by rw [HNEW.out];unfold lsG;rw [HGI.out]
     have HN:=Lib.hid hnew
     clear hnew
     go_wp2_with fail
     refine (add_any (i:Int) (w.heap.size+2) w.heap.size v2 _ wr hst.ko hst.row hst.bel.size (by omega)).mono ?_
     rintro e w3 ⟨rfl,v3,ko3,hr3,hx3,hv3⟩
     have hst3:=hst.exc hx3 ko3 hr3
     have hu3:=hst.other hx3 hu hap
     have hap3:=ap_next hu hap hv3
     go_wp2
     go_roundw
     case rel=>exact ⟨k+1,by omega,by go_num,_,by rw [HN.out];exact hst3,hu3,hap3⟩
     case measure=>simp [intOf];omega
  ·obtain rfl:k=(ordC gs).length:=by omega
   clear hu hap
   obtain ⟨x0,xf,xz⟩:=hst.kc.cell
   have x1:=x0 1
   have x2:=x0 2
   have x0:=x0 0
   simp only [List.getElem?_toArray,List.getElem?_cons_zero,List.getElem?_cons_succ] at x0 x1 x2
   go_wp2_with fail
   refine (HDL.out wr hst.bel).mono ?_
   rintro e w2 ⟨d,rfl,hd,hb2⟩
   have hap:=ap_fresh hst.row hd
   have hst2:=hst.keep hb2
   obtain ⟨da,dc,rfl⟩:=hd.slice
   have hz0:ls2 gs 0=ls1 gs (ordC gs).length:=rfl
   rw [← hz0] at hst2
   clear hst hb2 x0 x1 x2 xf xz hz0
   generalize hwz:wr.heap.size=wz at *
   clear hwz
   go_wp2_with fail
   go_loopw [63] (fun q wr=>∃ k2:Nat,k2≤(dlyL gs).length∧q=.int .i64 k2∧∃ v,LsS w #[.int .i64 inp,.slice (some ⟨b,o,none⟩) gs.length cap,.slice oa os.length oc] wr v (ls2 gs k2)∧Rw wr wz (.slice da (dlyL gs).length dc) (dlyL gs)∧∀ j,(Value.slice da (dlyL gs).length dc).ownBlock=some j → v.ownBlock ≠ some j) (fun q _=>(dlyL gs).length - (intOf q).toNat)
   case atStart=>exact ⟨0,Nat.zero_le _,rfl,_,hst2,hd,hap⟩
   case round =>
    clear hst2 hd hap
    obtain ⟨k2,hk2,rfl,v2,hst,hd,hap⟩:=hrel
    have hsmall:=ls_small h (ls2_ok h k2).1
    by_cases hlk2:k2<(dlyL gs).length
    ·obtain ⟨db,do_,rfl,d0⟩:=ints_cell hd.at hlk2
     have hzr:=dly_mem (List.getElem_mem hlk2)
     have hnx:=ls2_succ gs hlk2
     obtain ⟨z,hz⟩:∃ z:Nat,(dlyL gs)[k2]=z:=⟨((dlyL gs)[k2]).toNat,by omega⟩
     rw [hz] at d0 hzr hnx
     have hzl:z<gs.length:=by omega
     have hgt:=HAT.out z hzl
     have c1:=(hgt.keep hst.bel).2.1
     rw [gNo_get hzl] at hnx
     obtain ⟨ga,hga⟩:∃ ga,(gs[z]).a=ga:=⟨_,rfl⟩
     rw [hga] at c1 hnx
     have HNX:=Lib.hid hnx
     have dz:=cell_lt d0
     have bz:=cell_lt c1
     have x1:=hst.kc.cell.1 1
     have xz:=hst.kc.lt
     simp only [List.getElem?_toArray,List.getElem?_cons_zero,List.getElem?_cons_succ] at x1
     clear hz hga hgt hnx hzr
     go_wp2_with fail
     refine (add_any ga (w.heap.size+2) w.heap.size v2 _ wr hst.ko hst.row hst.bel.size (by omega)).mono ?_
     rintro e w3 ⟨rfl,v3,ko3,hr3,hx3,hv3⟩
     have hst3:=hst.exc hx3 ko3 hr3
     have hd3:=hst.other hx3 hd hap
     have hap3:=ap_next hd hap hv3
     go_wp2
     go_roundw
     case rel=>exact ⟨k2+1,by omega,by go_num,_,by rw [HNX.out];exact hst3,hd3,hap3⟩
     case measure=>simp [intOf];omega
    ·obtain rfl:k2=(dlyL gs).length:=by omega
     have x2:=hst.kc.cell.1 2
     have xz:=hst.kc.lt
     simp only [List.getElem?_toArray,List.getElem?_cons_zero,List.getElem?_cons_succ] at x2
     have hz0:ls3 gs os 0=ls2 gs (dlyL gs).length:=rfl
     rw [← hz0] at hst
     clear hd hap hz0
     generalize hww:wr=wo at *
     clear hww
     go_wp2_with fail
     go_loopw [79] (fun q wr=>∃ k2:Nat,k2≤os.length∧q=.int .i64 k2∧∃ v,LsS w #[.int .i64 inp,.slice (some ⟨b,o,none⟩) gs.length cap,.slice oa os.length oc] wr v (ls3 gs os k2)) (fun q _=>os.length - (intOf q).toNat)
     case atStart=>exact ⟨0,Nat.zero_le _,rfl,_,hst⟩
     case round =>
      clear hst x2 xz
      obtain ⟨k2,hk2,rfl,v2,hst⟩:=hrel
      have hsmall:=ls_small h (ls3_ok h k2).1
      by_cases hlk2:k2<os.length
      ·obtain ⟨db,do_,rfl,d0⟩:=ints_cell (HO.out.keep hst.bel) hlk2
       have HNX:=Lib.hid (ls3_succ gs os hlk2)
       have dz:=cell_lt d0
       generalize os[k2]=z at d0 HNX
       go_wp2_with fail
       refine (add_any z (w.heap.size+2) w.heap.size v2 _ wr hst.ko hst.row hst.bel.size (by omega)).mono ?_
       rintro e w3 ⟨rfl,v3,ko3,hr3,hx3,hv3⟩
       have hst3:=hst.exc hx3 ko3 hr3
       go_wp2
       go_roundw
       case rel=>exact ⟨k2+1,by omega,by go_num,_,by rw [HNX.out];exact hst3⟩
       case measure=>simp [intOf];omega
      ·obtain rfl:k2=os.length:=by omega
       have o0:=hst.ko.cell.1 0
       have oz:=hst.ko.lt
       simp only [List.getElem?_toArray,List.getElem?_cons_zero,List.getElem?_cons_succ] at o0
       have hres:Rw wr w.heap.size v2 (listL gs os):=hst.row
       have hbel:=hst.bel
       obtain ⟨va,vc,rfl⟩:=hres.slice
       clear hst
       go_wp2
       go_ret
       exact ⟨_,rfl,hres,hbel⟩
end Go.Proofs.YtbljmfcifljkaaaGreatDoor
