/-
  The program of a circuit, by the reference. Own work; printed by a program of my own (parCqW.py).
-/
import Derived.Test.YtbljmfcifljkaaaGreatDoorXBC
set_option linter.all false
set_option maxRecDepth 100000
set_option maxHeartbeats 8000000
namespace Go.Proofs.YtbljmfcifljkaaaGreatDoor
open Go.RowKit
set_option maxRecDepth 100000
set_option maxHeartbeats 2000000
section
variable {w:World} {i0 i1 i2 r:Int} {wr w':World} {vh vr vp:Value} {H R:List Int} {P:List InI}
theorem CmW.mk4 {vp':Value} {P':List InI} (kx:Bk wr w.heap.size 68 #[.int .i64 i0,.int .i64 i1,.int .i64 i2,.int .i64 r,vp]) (rh:Rw wr w.heap.size vh H) (rr:Rw wr w.heap.size vr R) (q:IRw wr w.heap.size vp' P')
  (ap:∀ j,vh.ownBlock=some j → vr.ownBlock ≠ some j) (bel:Below w.heap.size w wr):CmW w i0 i1 i2 r (wr.setCell ⟨w.heap.size,4,none⟩ vp') vh vr vp' H R P' :=
 ⟨by simpa using kx.set 4 vp',owns_other rh _ _ (row_blk_ne rh kx (by decide)),owns_other rr _ _ (row_blk_ne rr kx (by decide)),owns_other q _ _ (row_blk_ne q kx (by decide)),ap,bel.setCell (Nat.le_refl _) _⟩
end
theorem owns_set5 {w:World} {B e sz n b:Nat} {v:Value} {xs:List Value} {t:TypeId} {cs:Array Value} (h:w.ownsRow B e sz v n xs) (kb:Bk w b t cs) (ht:e ≠ t) (x y z u s:Value):(((((w.setCell ⟨b,0,none⟩ x).setCell ⟨b,1,none⟩ y).setCell ⟨b,2,none⟩ z).setCell ⟨b,3,none⟩ u).setCell ⟨b,4,none⟩ s).ownsRow B e sz v n xs :=
 have hne:=row_blk_ne h kb ht
 owns_other (owns_other (owns_other (owns_other (owns_other h _ _ hne) ⟨b,1,none⟩ _ hne) ⟨b,2,none⟩ _ hne) ⟨b,3,none⟩ _ hne) ⟨b,4,none⟩ _ hne
theorem IRw.mono {w:World} {B B':Nat} {v:Value} {is:List InI} (h:IRw w B v is) (hb:B'≤B):IRw w B' v is:=by
 refine ⟨h.1,?_⟩
 rcases h.2 with hn|⟨g,cap,cur,e,hB,rest⟩
 ·exact .inl hn
 ·exact .inr ⟨g,cap,cur,e,Nat.le_trans hb hB,rest⟩
theorem rg_is {U:List (List Int)} {t:Nat} {H:List Int} {r:Nat} (h1:∀ j,∀ h:j<H.length,j<r → freeB U t H[j]=false) (h2:∀ h:r<H.length,freeB U t H[r]=true) (hr:r≤H.length):rgS U t H=r:=by
 unfold rgS
 rcases Nat.lt_or_ge r H.length with h|h
 ·exact (List.findIdx_eq h).2 ⟨h2 h,fun j hj=>h1 j (by omega) hj⟩
 ·obtain rfl:r=H.length:=by omega
  rw [List.findIdx_eq_length]
  intro x hx
  obtain ⟨j,hj,rfl⟩:=List.mem_iff_getElem.1 hx
  exact h1 j hj hj
theorem cm_step {gs:List GtI} {os:List Int} {k i r:Nat} (hk:k<(listL gs os).length) (hi:(listL gs os)[k]=(i:Int)) {I:InI} {H6:List Int} (hr:rgS (usesL gs os) k (cmK gs os k).holds=r) (hins:insOf gs (dlyL gs) (cmK gs os k).reg i r=I) (hH:hold1 (cmK gs os k).holds r=H6) :
  (cmK gs os (k+1)).holds=H6.set r i∧(cmK gs os (k+1)).reg=(cmK gs os k).reg.set i r∧(cmK gs os (k+1)).code=(cmK gs os k).code ++ [I]:=by
 rw [cmK_succ gs os hk,hi]
 unfold cmSt
 simp only [hr,hH,Int.toNat_natCast,hins,and_self]
def DxP (d:List Int) (i:Int) (m:Nat) (x:Int):Prop:=(∀ j,∀ h:j<d.length,j<m → d[j]=i → x=j)∧((∀ j,∀ h:j<d.length,j<m → d[j] ≠ i) → x=0)
theorem DxP.zero (d:List Int) (i:Int):DxP d i 0 0:=⟨fun j h h0=>by omega,fun _=>rfl⟩
theorem DxP.hit {d:List Int} {i:Int} {m:Nat} {x:Int} (hn:d.Nodup) (hm:m<d.length) (e:d[m]=i) (h:DxP d i m x):DxP d i (m+1) m :=
 ⟨fun j hj _ e2=>by
  rcases Nat.lt_trichotomy m j with h1|h1|h1
  ·exact absurd (e.trans e2.symm) (List.pairwise_iff_getElem.1 hn m j hm hj h1)
  ·rw [h1]
  ·exact absurd (e2.trans e.symm) (List.pairwise_iff_getElem.1 hn j m hj hm h1),fun h2=>absurd e (h2 m hm (by omega))⟩
theorem DxP.miss {d:List Int} {i:Int} {m:Nat} {x:Int} (hm:m<d.length) (e:d[m] ≠ i) (h:DxP d i m x):DxP d i (m+1) x :=
 ⟨fun j hj hlt e2=>by
  rcases Nat.lt_or_ge j m with h1|h1
  ·exact h.1 j hj h1 e2
  ·obtain rfl:j=m:=by omega
   exact absurd e2 e,fun h2=>h.2 fun j hj h1=>h2 j hj (by omega)⟩
theorem DxP.all {d:List Int} {i:Int} {x:Int} (h:DxP d i d.length x):x=dix d i:=by
 unfold dix
 split
 ·rename_i hm
  have hlt:=List.idxOf_lt_length_of_mem hm
  exact h.1 _ hlt hlt (List.getElem_idxOf hlt)
 ·rename_i hm
  exact h.2 fun j hj _ e=>hm (e ▸ List.getElem_mem hj)
def CmP (inp:Int) (gs:List GtI) (os:List Int) (w:World) (e:Ending) (w':World):Prop :=
 ∃ vc,e=.returned (.agg #[.int .i64 inp,.int .i64 os.length,.int .i64 (dlyL gs).length,.int .i64 (cmEnd gs os).holds.length,vc])∧IRw w' w.heap.size vc (progL inp gs os).code∧Below w.heap.size w w'
theorem uses_small {p inp:Int} {gs:List GtI} {os:List Int} (h:CiOk p inp gs os):∀ u ∈ usesL gs os,u.length≤1000:=by
 intro u hu
 unfold usesL at hu
 rcases List.mem_append.1 hu with h1|h1
 ·obtain ⟨i,hi,rfl⟩:=List.mem_map.1 h1
  generalize gNo gs i=g
  unfold ndsG opsG
  repeat' split
  all_goals simp
 ·rcases List.mem_append.1 h1 with h2|h2
  ·obtain ⟨d,hd,rfl⟩:=List.mem_map.1 h2
   simp
  ·obtain ⟨k,hk,rfl⟩:=List.mem_map.1 h2
   simp
theorem cmCompile_any (p inp:Int) (vg vo:Value) (gs:List GtI) (os:List Int) (w:World) (h:CiOk p inp gs os) (hg:GtsAt w vg gs) (ho:IntsAt w vo os) :
  Calls Tryz.prog 139 #[.agg #[.int .i64 inp,vg,vo]] w (CmP inp gs os w):=by
 have hlen:=h.len
 have hout:=h.outs
 have hlo:=list_ok h
 have hll:(listL gs os).length≤gs.length:=nodup_len hlo.nd hlo.rg
 have hdll:(dlyL gs).length≤gs.length:=dlyN_len gs gs.length
 have hul:=uses_len gs os
 have hnn:=uses_nn h
 have hlens:∀ u ∈ usesL gs os,u.length≤1000:=fun u hu=>uses_small h u hu
 have hcl:=fun (U:World) (hb:Below w.heap.size w U)=>cmListed_any p inp vg vo gs os U h (hg.keep hb) (ho.keep hb)
 have hcu:=fun (U:World) (vl:Value) (hb:Below w.heap.size w U) (hl:IntsAt U vl (listL gs os))=>cmUses_any p inp vg vo vl gs os U h (hg.keep hb) (ho.keep hb) hl
 have hcd:=fun (U:World) (hb:Below w.heap.size w U)=>crDelays_any inp vo vg gs U (hg.keep hb) (by omega)
 obtain ⟨oa,oc,rfl⟩:=ho.slice
 have HO:=Lib.hid ho
 obtain ⟨a,cap,rfl,hc,hat⟩:=hg
 obtain ⟨b,o,rfl,_⟩:=hat 0 (by omega)
 have hat:∀ i,∀ hi:i<gs.length,GtAt w gs[i] b (o+i * 4):=fun i hi=>by
  obtain ⟨b2,o2,e,_,hgt⟩:=hat i hi
  simp only [Option.some.injEq,Addr.mk.injEq,and_true] at e
  obtain ⟨rfl,rfl⟩:=e
  exact hgt
 have hA:=alloc_below w (.cells #[.int .i64 inp,.slice (some ⟨b,o,none⟩) gs.length cap,.slice oa os.length oc] 112)
 have hA2:=alloc_below (w.alloc (.cells #[.int .i64 inp,.slice (some ⟨b,o,none⟩) gs.length cap,.slice oa os.length oc] 112)) (.cells #[.int .i64 0,.int .i64 0,.int .i64 0,.int .i64 0,.slice none 0 0] 68)
 have kC:=(Bk.new w 112 #[.int .i64 inp,.slice (some ⟨b,o,none⟩) gs.length cap,.slice oa os.length oc]).keep hA2
 have kZ:=Bk.new (w.alloc (.cells #[.int .i64 inp,.slice (some ⟨b,o,none⟩) gs.length cap,.slice oa os.length oc] 112)) 68 #[.int .i64 0,.int .i64 0,.int .i64 0,.int .i64 0,.slice none 0 0]
 rw [World.size_alloc] at kZ
 have hB:=hA.trans (hA2.mono hA.size)
 have HAT:=Lib.hid hat
 have HL:=Lib.hid hcl
 have HU:=Lib.hid hcu
 have HD:=Lib.hid hcd
 have HRG:=Lib.hid hlo.rg
 have HUL:=Lib.hid hul
 have HLE:=Lib.hid hlens
 have HNN:=Lib.hid hnn
 have HH:=Lib.hid h
 clear hA hA2 hat hcl hcu hcd hul hlens hnn hlo h ho
 go_enter Tryz.func139,Tryz.ntmps139
 go_wp2_with fail
 generalize ((w.alloc (.cells #[.int .i64 inp,.slice (some ⟨b,o,none⟩) gs.length cap,.slice oa os.length oc] 112)).alloc (.cells #[.int .i64 0,.int .i64 0,.int .i64 0,.int .i64 0,.slice none 0 0] 68))=u0 at *
 refine (HL.out _ hB).mono ?_
 rintro e w1 ⟨vl,rfl,hvl,hb1⟩
 replace kC:=kC.keep hb1
 replace kZ:=kZ.keep hb1
 replace hB:=hB.trans (hb1.mono hB.size)
 obtain ⟨x0,xf,xz⟩:=kC.cell
 have x1:=x0 1
 have x2:=x0 2
 have x0:=x0 0
 simp only [List.getElem?_toArray,List.getElem?_cons_zero,List.getElem?_cons_succ] at x0 x1 x2
 obtain ⟨la,lc,rfl⟩:=hvl.slice
 have hvl0:=hvl.mono (Nat.zero_le _)
 clear hvl hb1
 go_wp2_with fail
 refine (HU.out w1 _ hB hvl0.at).mono ?_
 rintro e w2 ⟨vu,rfl,hvu,hb2⟩
 clear x0 x1 x2 xf xz
 replace kC:=kC.keep hb2
 replace kZ:=kZ.keep hb2
 replace hB:=hB.trans (hb2.mono hB.size)
 obtain ⟨x0,xf,xz⟩:=kC.cell
 have x1:=x0 1
 have x2:=x0 2
 have x0:=x0 0
 simp only [List.getElem?_toArray,List.getElem?_cons_zero,List.getElem?_cons_succ] at x0 x1 x2
 replace hvl0:=hvl0.keep hb2
 clear hb2
 go_wp2_with fail
 refine (HD.out w2 hB).mono ?_
 rintro e w3 ⟨vd,rfl,hvd,hb3⟩
 clear x0 x1 x2 xf xz
 replace kC:=kC.keep hb3
 replace kZ:=kZ.keep hb3
 replace hB:=hB.trans (hb3.mono hB.size)
 obtain ⟨x0,xf,xz⟩:=kC.cell
 have x1:=x0 1
 have x2:=x0 2
 have x0:=x0 0
 simp only [List.getElem?_toArray,List.getElem?_cons_zero,List.getElem?_cons_succ] at x0 x1 x2
 replace hvl0:=hvl0.keep hb3
 replace hvu:=hvu.keep hb3
 obtain ⟨da,dc,rfl⟩:=hvd.slice
 have hvd0:=hvd.mono (Nat.zero_le _)
 clear hvd hb3
 have hA3:=alloc_below w3 (.cells #[.int .i64 inp,.int .i64 os.length,.int .i64 (dlyL gs).length,.int .i64 0,.slice none 0 0] 68)
 have kX:=Bk.new w3 68 #[.int .i64 inp,.int .i64 os.length,.int .i64 (dlyL gs).length,.int .i64 0,.slice none 0 0]
 go_wp2_with fail
 refine (cnNone_any gs.length (w3.alloc (.cells #[.int .i64 inp,.int .i64 os.length,.int .i64 (dlyL gs).length,.int .i64 0,.slice none 0 0] 68)) (by omega)).mono ?_
 rintro e w4 ⟨vr,rfl,hvr,hb4⟩
 clear x0 x1 x2 xf xz
 have hrl:(List.replicate gs.length (-1:Int)).length=gs.length:=List.length_replicate
 obtain ⟨rq,rc,hvre,hrq,hrB⟩:=hvr.block (by omega)
 rw [hrl] at hvre
 subst hvre
 have hst:CmW w3 inp os.length (dlyL gs).length 0 w4 (.slice none 0 0) ((.slice (some ⟨rq,0,none⟩) gs.length rc)) (.slice none 0 0) [] (List.replicate gs.length (-1)) [] :=
  ⟨kX.keep hb4,World.ownsRow_nil _ _ _ _,hvr.mono (by simp),World.ownsRow_nil _ _ _ _,fun j hj=>by simp [Value.ownBlock] at hj,hA3.trans (hb4.mono hA3.size)⟩
 clear hvr hb4 hA3 kX hrq hrB hrl
 go_wp2_with fail
 go_loopw [8,41] (fun rv i wr=>∃ k:Nat,k≤(listL gs os).length∧i=.int .i64 k∧∃ vp,CmW w3 inp os.length (dlyL gs).length 0 wr rv ((.slice (some ⟨rq,0,none⟩) gs.length rc)) vp (cmK gs os k).holds (cmK gs os k).reg (cmK gs os k).code) (fun _ i _=>(listL gs os).length - (intOf i).toNat)
 case atStart=>exact ⟨0,Nat.zero_le _,rfl,_,hst⟩
 case round =>
 clear hst
 obtain ⟨k,hk,rfl,vp,hst⟩:=hrel
 by_cases hlk:k<(listL gs os).length
 ·have hI:=cm_inv HH.out k hk
  obtain ⟨pb,po,rfl,d0⟩:=ints_cell (hvl0.keep hst.bel).at hlk
  have hir:=HRG.out _ (List.getElem_mem hlk)
  obtain ⟨i,hii⟩:∃ i:Nat,(listL gs os)[k]=i:=⟨((listL gs os)[k]).toNat,by omega⟩
  have HST:=Lib.hid (fun r I H6=>cm_step (r:=r) (I:=I) (H6:=H6) hlk hii)
  have hops:=ci_ops HH.out hir.1 hir.2
  have hgk:=HH.out.gates _ (gNo_mem hir.1 hir.2)
  rw [hii] at d0 hir hops hgk
  have hi:i<gs.length:=by omega
  have hgn:=gNo_get hi
  have hgt:=(HAT.out i hi).keep (hB.trans (hst.bel.mono hB.size))
  obtain ⟨g,hgg⟩:∃ g,gs[i]=g:=⟨_,rfl⟩
  rw [hgg] at hgt hgn
  rw [hgn] at hops hgk
  obtain ⟨kd,ga,gb,gv⟩:=g
  obtain ⟨c0,c1,c2,c3⟩:=hgt
  simp only at c0 c1 c2 c3
  have HGN:=Lib.hid hgn
  generalize cmK gs os k=s at *
  obtain ⟨H,R,P⟩:=s
  simp only at hst hI
  obtain ⟨hIrl,hIho,hIrg,hIcl,hIhl,-⟩:=hI
  simp only at hIrl hIho hIrg hIcl hIhl
  have hHn:∀ j,∀ hj:j<H.length,0≤H[j]:=fun j hj=>(HRG.out _ (List.mem_of_mem_take (hIho _ (List.getElem_mem hj)))).1
  obtain ⟨ha,hcp,rfl⟩:=hst.rh.slice
  have xk:=kC.keep hst.bel
  have x1:=xk.cell.1 1
  have xz:=xk.lt
  simp only [List.getElem?_toArray,List.getElem?_cons_zero,List.getElem?_cons_succ] at x1
  have bz:=cell_lt c0
  have dz:=cell_lt d0
  have hA5:=alloc_below wr (.cells #[.int .i64 kd,.int .i64 ga,.int .i64 gb,.int .i64 gv] 203)
  have kG:=Bk.new wr 203 #[.int .i64 kd,.int .i64 ga,.int .i64 gb,.int .i64 gv]
  replace hst:=hst.keep hA5
  have hkd:kd=1∨kd=2∨kd=3∨kd=4∨kd=5:=by
   have h1:=gate_kind hgk
   unfold gatB at h1
   simp only at h1
   by_cases h1':kd=1
   ·exact .inl h1'
   by_cases h2':kd=2
   ·exact .inr (.inl h2')
   by_cases h3':kd=3
   ·exact .inr (.inr (.inl h3'))
   by_cases h4':kd=4
   ·exact .inr (.inr (.inr (.inl h4')))
   by_cases h5':kd=5
   ·exact .inr (.inr (.inr (.inr h5')))
   simp [h1',h2',h3',h4',h5'] at h1
  clear hA5 xk
  go_wp2_with fail
  generalize wr.heap.size=gk at *
  generalize (wr.alloc (.cells #[.int .i64 kd,.int .i64 ga,.int .i64 gb,.int .i64 gv] 203))=w5 at *
  clear c0 c1 c2 c3 x1 xz bz dz d0 hgg
  go_loopw [12] (fun q wx=>∃ r:Nat,q=.int .i64 r∧r≤H.length∧(∀ j,∀ hj:j<H.length,j<r → freeB (usesL gs os) k H[j]=false)∧wx=w5) (fun q _=>H.length - (intOf q).toNat)
  case atStart=>exact ⟨0,rfl,Nat.zero_le _,fun j h1 h2=>by omega,rfl⟩
  case round =>
  obtain ⟨r,rfl,hr,hall,rfl⟩:=hrel
  have HALL:=Lib.hid hall
  clear hall
  by_cases hrl:r<H.length
  ·obtain ⟨hq,hc',hvq,hqz,hqB⟩:=hst.rh.block (by omega)
   simp only [Value.slice.injEq,true_and] at hvq
   obtain ⟨rfl,rfl⟩:=hvq
   have e0:=Rw.cell hst.rh r hrl
   have h0:=hHn r hrl
   have ez:=cell_lt e0
   have hlt:=cmLater_any vu (usesL gs os) k H[r] wr (hvu.keep hst.bel) (by rw [HUL.out];omega) (by rw [HUL.out];omega) HLE.out
   cases hb:later (usesL gs os) k H[r] with
   | true =>
    have HF:=Lib.hid (show freeB (usesL gs os) k H[r]=false by unfold freeB;rw [hb,decide_eq_true h0];rfl)
    rw [hb] at hlt
    obtain ⟨x,hx⟩:∃ x,H[r]=x:=⟨_,rfl⟩
    rw [hx] at e0 hlt h0
    have HC:=Lib.hid hlt
    clear hb hlt hx
    go_wp2_with (go_at_call 208;refine HC.out.mono ?_;rintro e' w2' ⟨rfl,rfl⟩)
    go_roundw
    case rel=>exact ⟨r+1,by go_num,by omega,fun j h1 h2=>by
     rcases Nat.lt_or_ge j r with h|h
     ·exact HALL.out j h1 h
     ·obtain rfl:j=r:=by omega
      exact HF.out,by first|rfl|trivial⟩
    case measure=>simp [intOf];omega
   | false =>
    have hrg:rgS (usesL gs os) k H=r:=rg_is HALL.out (fun _=>by unfold freeB;rw [hb,decide_eq_true h0];rfl) hr
    have hh1:hold1 H r=H:=if_neg (by omega)
    have hr6:r<H.length:=hrl
    rw [hb] at hlt
    obtain ⟨x,hx⟩:∃ x,H[r]=x:=⟨_,rfl⟩
    rw [hx] at e0 hlt h0
    have HC:=Lib.hid hlt
    clear hb hlt hx
    rcases hkd with hkd|hkd|hkd|hkd|hkd
    ·subst hkd
     have hins:insOf gs (dlyL gs) R (i:Int) r=⟨1,r,gv,0,0⟩:=by unfold insOf;rw [HGN.out];rfl
     have HSU:=Lib.hid (HST.out r _ _ hrg hins hh1)
     clear hins hrg hh1 hops hgk
     have hA6:=alloc_below wr (.cells #[.int .i64 1,.int .i64 r,.int .i64 gv,.int .i64 0,.int .i64 0] 206)
     have hA7:=alloc_below (wr.alloc (.cells #[.int .i64 1,.int .i64 r,.int .i64 gv,.int .i64 0,.int .i64 0] 206)) (.cells #[.int .i64 1,.int .i64 r,.int .i64 gv,.int .i64 0,.int .i64 0] 206)
     have hst7:=(hst.keep hA6).keep hA7
     have y0:=kG.cell.1 0
     have y1:=kG.cell.1 1
     have y2:=kG.cell.1 2
     have y3:=kG.cell.1 3
     have yz:=kG.lt
     have p4:=hst.kx.cell.1 4
     have pz:=hst.kx.lt
     simp only [List.getElem?_toArray,List.getElem?_cons_zero,List.getElem?_cons_succ] at y0 y1 y2 y3 p4
     have hone:=inst_one (wr.alloc (.cells #[.int .i64 1,.int .i64 r,.int .i64 gv,.int .i64 0,.int .i64 0] 206)) ⟨1,r,gv,0,0⟩
     rw [World.size_alloc] at hone
     have hP7:=hst7.rp
     have hsz7:=hst7.bel.size
     have HS7:=Lib.hid hst7
     clear hst7
     have HKG:=Lib.hid kG
     clear hA6 hA7 hst kG
     go_wp2_with (first|(go_at_call 208;refine HC.out.mono ?_;rintro e' w2' ⟨rfl,rfl⟩)|(have hq1:=hone;at_builtin;go_must (refine ins_append hone rfl (.tmp 135) (.tmp 137) rfl w3.heap.size vp P rfl rfl hP7 hsz7 (by simp only [List.length_singleton];omega) ?_);intro v8 w8 q1 q2 q3;obtain ⟨va8,vc8,hve⟩:=q1.slice;rw [List.length_append,List.length_singleton,hIcl] at hve;subst hve;obtain ⟨kx8,rh8,rr8,hst8⟩:=HS7.out.growP q2 q1;obtain ⟨⟨d1,f1⟩,-⟩:=Rw.put rh8 (n:=H.length) rfl (k:=r) (by omega) 0;obtain ⟨⟨d2,f2⟩,-⟩:=Rw.put rr8 (n:=gs.length) hIrl (k:=i) hi 0;obtain ⟨n1,n2,n3⟩:=HS7.out.nes;have z1:=cell_lt d1;have z2:=cell_lt d2;have zx:=kx8.lt;have fx:=kx8.cell.2.1 4;have xx:=kx8.cell.1 4;simp only [List.getElem?_toArray,List.getElem?_cons_zero,List.getElem?_cons_succ] at xx))
     have hst9:=(hst8.setH (m:=r) rfl (by omega) i).setR hIrl hi r
     go_roundw
     case rel=>exact ⟨k+1,by omega,by go_num,_,by rw [HSU.out.1,HSU.out.2.1,HSU.out.2.2];exact hst9⟩
     case measure=>simp [intOf];omega
    ·subst hkd
     have hins:insOf gs (dlyL gs) R (i:Int) r=⟨2,r,0,0,0⟩:=by unfold insOf;rw [HGN.out];rfl
     have HSU:=Lib.hid (HST.out r _ _ hrg hins hh1)
     clear hins hrg hh1 hops hgk
     have hA6:=alloc_below wr (.cells #[.int .i64 2,.int .i64 r,.int .i64 0,.int .i64 0,.int .i64 0] 206)
     have hA7:=alloc_below (wr.alloc (.cells #[.int .i64 2,.int .i64 r,.int .i64 0,.int .i64 0,.int .i64 0] 206)) (.cells #[.int .i64 2,.int .i64 r,.int .i64 0,.int .i64 0,.int .i64 0] 206)
     have hst7:=(hst.keep hA6).keep hA7
     have y0:=kG.cell.1 0
     have y1:=kG.cell.1 1
     have y2:=kG.cell.1 2
     have y3:=kG.cell.1 3
     have yz:=kG.lt
     have p4:=hst.kx.cell.1 4
     have pz:=hst.kx.lt
     simp only [List.getElem?_toArray,List.getElem?_cons_zero,List.getElem?_cons_succ] at y0 y1 y2 y3 p4
     have hone:=inst_one (wr.alloc (.cells #[.int .i64 2,.int .i64 r,.int .i64 0,.int .i64 0,.int .i64 0] 206)) ⟨2,r,0,0,0⟩
     rw [World.size_alloc] at hone
     have hP7:=hst7.rp
     have hsz7:=hst7.bel.size
     have HS7:=Lib.hid hst7
     clear hst7
     have HKG:=Lib.hid kG
     clear hA6 hA7 hst kG
     go_wp2_with (first|(go_at_call 208;refine HC.out.mono ?_;rintro e' w2' ⟨rfl,rfl⟩)|(have hq1:=hone;at_builtin;go_must (refine ins_append hone rfl (.tmp 135) (.tmp 137) rfl w3.heap.size vp P rfl rfl hP7 hsz7 (by simp only [List.length_singleton];omega) ?_);intro v8 w8 q1 q2 q3;obtain ⟨va8,vc8,hve⟩:=q1.slice;rw [List.length_append,List.length_singleton,hIcl] at hve;subst hve;obtain ⟨kx8,rh8,rr8,hst8⟩:=HS7.out.growP q2 q1;obtain ⟨⟨d1,f1⟩,-⟩:=Rw.put rh8 (n:=H.length) rfl (k:=r) (by omega) 0;obtain ⟨⟨d2,f2⟩,-⟩:=Rw.put rr8 (n:=gs.length) hIrl (k:=i) hi 0;obtain ⟨n1,n2,n3⟩:=HS7.out.nes;have z1:=cell_lt d1;have z2:=cell_lt d2;have zx:=kx8.lt;have fx:=kx8.cell.2.1 4;have xx:=kx8.cell.1 4;simp only [List.getElem?_toArray,List.getElem?_cons_zero,List.getElem?_cons_succ] at xx))
     have hst9:=(hst8.setH (m:=r) rfl (by omega) i).setR hIrl hi r
     go_roundw
     case rel=>exact ⟨k+1,by omega,by go_num,_,by rw [HSU.out.1,HSU.out.2.1,HSU.out.2.2];exact hst9⟩
     case measure=>simp [intOf];omega
    ·subst hkd
     have hoa:=hops ga (by simp [opsG])
     obtain ⟨na,rfl⟩:∃ na:Nat,ga=na:=⟨ga.toNat,by omega⟩
     have hna:na<R.length:=by omega
     have gda:R.getD na (-1)=R[na]:=by rw [List.getD_eq_getElem?_getD,List.getElem?_eq_getElem hna];rfl
     obtain ⟨va,hva⟩:∃ v,R[na]=v:=⟨_,rfl⟩
     rw [hva] at gda
     have HVa:=Lib.hid hva
     clear hva
     have hob:=hops gb (by simp [opsG])
     obtain ⟨nb,rfl⟩:∃ nb:Nat,gb=nb:=⟨gb.toNat,by omega⟩
     have hnb:nb<R.length:=by omega
     have gdb:R.getD nb (-1)=R[nb]:=by rw [List.getD_eq_getElem?_getD,List.getElem?_eq_getElem hnb];rfl
     obtain ⟨vb,hvb⟩:∃ v,R[nb]=v:=⟨_,rfl⟩
     rw [hvb] at gdb
     have HVb:=Lib.hid hvb
     clear hvb
     have hins:insOf gs (dlyL gs) R (i:Int) r=⟨3,r,va,vb,0⟩:=by unfold insOf;rw [HGN.out];simp only [Int.toNat_natCast,gda,gdb];rfl
     have HSU:=Lib.hid (HST.out r _ _ hrg hins hh1)
     clear hins hrg hh1 hops hgk gda gdb
     have hA6:=alloc_below wr (.cells #[.int .i64 3,.int .i64 r,.int .i64 va,.int .i64 vb,.int .i64 0] 206)
     have hA7:=alloc_below (wr.alloc (.cells #[.int .i64 3,.int .i64 r,.int .i64 va,.int .i64 vb,.int .i64 0] 206)) (.cells #[.int .i64 3,.int .i64 r,.int .i64 va,.int .i64 vb,.int .i64 0] 206)
     have hst7:=(hst.keep hA6).keep hA7
     have y0:=kG.cell.1 0
     have y1:=kG.cell.1 1
     have y2:=kG.cell.1 2
     have y3:=kG.cell.1 3
     have yz:=kG.lt
     have p4:=hst.kx.cell.1 4
     have pz:=hst.kx.lt
     simp only [List.getElem?_toArray,List.getElem?_cons_zero,List.getElem?_cons_succ] at y0 y1 y2 y3 p4
     have ra:=Rw.cell hst.rr na hna
     rw [HVa.out] at ra
     have rza:=cell_lt ra
     have rb:=Rw.cell hst.rr nb hnb
     rw [HVb.out] at rb
     have rzb:=cell_lt rb
     have hone:=inst_one (wr.alloc (.cells #[.int .i64 3,.int .i64 r,.int .i64 va,.int .i64 vb,.int .i64 0] 206)) ⟨3,r,va,vb,0⟩
     rw [World.size_alloc] at hone
     have hP7:=hst7.rp
     have hsz7:=hst7.bel.size
     have HS7:=Lib.hid hst7
     clear hst7
     have HKG:=Lib.hid kG
     clear hA6 hA7 hst kG
     go_wp2_with (first|(go_at_call 208;refine HC.out.mono ?_;rintro e' w2' ⟨rfl,rfl⟩)|(have hq1:=hone;at_builtin;go_must (refine ins_append hone rfl (.tmp 135) (.tmp 137) rfl w3.heap.size vp P rfl rfl hP7 hsz7 (by simp only [List.length_singleton];omega) ?_);intro v8 w8 q1 q2 q3;obtain ⟨va8,vc8,hve⟩:=q1.slice;rw [List.length_append,List.length_singleton,hIcl] at hve;subst hve;obtain ⟨kx8,rh8,rr8,hst8⟩:=HS7.out.growP q2 q1;obtain ⟨⟨d1,f1⟩,-⟩:=Rw.put rh8 (n:=H.length) rfl (k:=r) (by omega) 0;obtain ⟨⟨d2,f2⟩,-⟩:=Rw.put rr8 (n:=gs.length) hIrl (k:=i) hi 0;obtain ⟨n1,n2,n3⟩:=HS7.out.nes;have z1:=cell_lt d1;have z2:=cell_lt d2;have zx:=kx8.lt;have fx:=kx8.cell.2.1 4;have xx:=kx8.cell.1 4;simp only [List.getElem?_toArray,List.getElem?_cons_zero,List.getElem?_cons_succ] at xx))
     have hst9:=(hst8.setH (m:=r) rfl (by omega) i).setR hIrl hi r
     go_roundw
     case rel=>exact ⟨k+1,by omega,by go_num,_,by rw [HSU.out.1,HSU.out.2.1,HSU.out.2.2];exact hst9⟩
     case measure=>simp [intOf];omega
    ·subst hkd
     have hoa:=hops ga (by simp [opsG])
     obtain ⟨na,rfl⟩:∃ na:Nat,ga=na:=⟨ga.toNat,by omega⟩
     have hna:na<R.length:=by omega
     have gda:R.getD na (-1)=R[na]:=by rw [List.getD_eq_getElem?_getD,List.getElem?_eq_getElem hna];rfl
     obtain ⟨va,hva⟩:∃ v,R[na]=v:=⟨_,rfl⟩
     rw [hva] at gda
     have HVa:=Lib.hid hva
     clear hva
     have hins:insOf gs (dlyL gs) R (i:Int) r=⟨4,r,va,0,gv⟩:=by unfold insOf;rw [HGN.out];simp only [Int.toNat_natCast,gda];rfl
     have HSU:=Lib.hid (HST.out r _ _ hrg hins hh1)
     clear hins hrg hh1 hops hgk gda
     have hA6:=alloc_below wr (.cells #[.int .i64 4,.int .i64 r,.int .i64 va,.int .i64 0,.int .i64 gv] 206)
     have hA7:=alloc_below (wr.alloc (.cells #[.int .i64 4,.int .i64 r,.int .i64 va,.int .i64 0,.int .i64 gv] 206)) (.cells #[.int .i64 4,.int .i64 r,.int .i64 va,.int .i64 0,.int .i64 gv] 206)
     have hst7:=(hst.keep hA6).keep hA7
     have y0:=kG.cell.1 0
     have y1:=kG.cell.1 1
     have y2:=kG.cell.1 2
     have y3:=kG.cell.1 3
     have yz:=kG.lt
     have p4:=hst.kx.cell.1 4
     have pz:=hst.kx.lt
     simp only [List.getElem?_toArray,List.getElem?_cons_zero,List.getElem?_cons_succ] at y0 y1 y2 y3 p4
     have ra:=Rw.cell hst.rr na hna
     rw [HVa.out] at ra
     have rza:=cell_lt ra
     have hone:=inst_one (wr.alloc (.cells #[.int .i64 4,.int .i64 r,.int .i64 va,.int .i64 0,.int .i64 gv] 206)) ⟨4,r,va,0,gv⟩
     rw [World.size_alloc] at hone
     have hP7:=hst7.rp
     have hsz7:=hst7.bel.size
     have HS7:=Lib.hid hst7
     clear hst7
     have HKG:=Lib.hid kG
     clear hA6 hA7 hst kG
     go_wp2_with (first|(go_at_call 208;refine HC.out.mono ?_;rintro e' w2' ⟨rfl,rfl⟩)|(have hq1:=hone;at_builtin;go_must (refine ins_append hone rfl (.tmp 135) (.tmp 137) rfl w3.heap.size vp P rfl rfl hP7 hsz7 (by simp only [List.length_singleton];omega) ?_);intro v8 w8 q1 q2 q3;obtain ⟨va8,vc8,hve⟩:=q1.slice;rw [List.length_append,List.length_singleton,hIcl] at hve;subst hve;obtain ⟨kx8,rh8,rr8,hst8⟩:=HS7.out.growP q2 q1;obtain ⟨⟨d1,f1⟩,-⟩:=Rw.put rh8 (n:=H.length) rfl (k:=r) (by omega) 0;obtain ⟨⟨d2,f2⟩,-⟩:=Rw.put rr8 (n:=gs.length) hIrl (k:=i) hi 0;obtain ⟨n1,n2,n3⟩:=HS7.out.nes;have z1:=cell_lt d1;have z2:=cell_lt d2;have zx:=kx8.lt;have fx:=kx8.cell.2.1 4;have xx:=kx8.cell.1 4;simp only [List.getElem?_toArray,List.getElem?_cons_zero,List.getElem?_cons_succ] at xx))
     have hst9:=(hst8.setH (m:=r) rfl (by omega) i).setR hIrl hi r
     go_roundw
     case rel=>exact ⟨k+1,by omega,by go_num,_,by rw [HSU.out.1,HSU.out.2.1,HSU.out.2.2];exact hst9⟩
     case measure=>simp [intOf];omega
    ·subst hkd
     have y0:=kG.cell.1 0
     have yz:=kG.lt
     simp only [List.getElem?_toArray,List.getElem?_cons_zero,List.getElem?_cons_succ] at y0
     have HKG:=Lib.hid kG
     clear kG
     go_wp2_with (go_at_call 208;refine HC.out.mono ?_;rintro e' w2' ⟨rfl,rfl⟩)
     generalize hww:wr=wo at *
     clear hww
     have hA6:=alloc_below wo (.cells #[.int .i64 5,.int .i64 r,.int .i64 0,.int .i64 0,.int .i64 0] 206)
     have kI:=Bk.new wo 206 #[.int .i64 5,.int .i64 r,.int .i64 0,.int .i64 0,.int .i64 0]
     clear HKG y0 yz hops hgk
     generalize (wo.alloc (.cells #[.int .i64 5,.int .i64 r,.int .i64 0,.int .i64 0,.int .i64 0] 206))=w7 at *
     go_loopw [87] (fun q wx=>∃ m:Nat,∃ x:Int,m≤(dlyL gs).length∧q=.int .i64 m∧DxP (dlyL gs) i m x∧Bk wx wo.heap.size 206 #[.int .i64 5,.int .i64 r,.int .i64 x,.int .i64 0,.int .i64 0]∧Below wo.heap.size wo wx) (fun q _=>(dlyL gs).length - (intOf q).toNat)
     case atStart=>exact ⟨0,0,Nat.zero_le _,rfl,DxP.zero _ _,kI,hA6⟩
     case round =>
     clear kI hA6
     obtain ⟨m,x,hm,rfl,hdx,kI,hb6⟩:=hrel
     by_cases hml:m<(dlyL gs).length
     ·obtain ⟨db,dq,rfl,g0⟩:=ints_cell ((hvd0.keep hst.bel).keep hb6).at hml
      have gz:=cell_lt g0
      by_cases heq:(dlyL gs)[m]=i
      ·have HDX:=Lib.hid (hdx.hit (dly_nodup gs) hml heq)
       rw [heq] at g0
       have kI2:=kI.set 2 (.int .i64 m)
       have hb62:=hb6.setCell (p:=⟨wo.heap.size,2,none⟩) (Nat.le_refl _) (.int .i64 m)
       have i2:=kI.cell.1 2
       have if2:=kI.cell.2.1 2
       have iz:=kI.lt
       simp only [List.getElem?_toArray,List.getElem?_cons_zero,List.getElem?_cons_succ] at i2
       have HK:=Lib.hid (And.intro kI2 hb62)
       clear hdx kI hb6 kI2 hb62 heq
       go_wp2
       go_roundw
       case rel=>exact ⟨m+1,m,by omega,by go_num,HDX.out,by simpa using HK.out.1,HK.out.2⟩
       case measure=>simp [intOf];omega
      ·have HDX:=Lib.hid (hdx.miss hml heq)
       generalize (dlyL gs)[m]=z at *
       have HK:=Lib.hid (And.intro kI hb6)
       clear hdx kI hb6
       go_wp2
       go_roundw
       case rel=>exact ⟨m+1,x,by omega,by go_num,HDX.out,HK.out.1,HK.out.2⟩
       case measure=>simp [intOf];omega
     ·obtain rfl:m=(dlyL gs).length:=by omega
      have hins:insOf gs (dlyL gs) R (i:Int) r=⟨5,r,x,0,0⟩:=by unfold insOf;rw [HGN.out,hdx.all];rfl
      have HSU:=Lib.hid (HST.out r _ _ hrg hins hh1)
      replace hst:=hst.keep hb6
      clear hins hrg hh1 hdx hb6
      have hA7:=alloc_below wr (.cells #[.int .i64 5,.int .i64 r,.int .i64 x,.int .i64 0,.int .i64 0] 206)
      have hst7:=hst.keep hA7
      have hone:=inst_one wr ⟨5,r,x,0,0⟩
      have p4:=hst.kx.cell.1 4
      have pz:=hst.kx.lt
      obtain ⟨i0,-,iz⟩:=kI.cell
      have i1:=i0 1
      have i2:=i0 2
      have i3:=i0 3
      have i4:=i0 4
      have i0:=i0 0
      simp only [List.getElem?_toArray,List.getElem?_cons_zero,List.getElem?_cons_succ] at p4 i0 i1 i2 i3 i4
      clear hA7 hst kI
      have hP7:=hst7.rp
      have hsz7:=hst7.bel.size
      have HS7:=Lib.hid hst7
      clear hst7
      go_wp2_with (have hq1:=hone;at_builtin;go_must (refine ins_append hone rfl (.tmp 135) (.tmp 137) rfl w3.heap.size vp P rfl rfl hP7 hsz7 (by simp only [List.length_singleton];omega) ?_);intro v8 w8 q1 q2 q3;obtain ⟨va8,vc8,hve⟩:=q1.slice;rw [List.length_append,List.length_singleton,hIcl] at hve;subst hve;obtain ⟨kx8,rh8,rr8,hst8⟩:=HS7.out.growP q2 q1;obtain ⟨⟨d1,f1⟩,-⟩:=Rw.put rh8 (n:=H.length) rfl (k:=r) (by omega) 0;obtain ⟨⟨d2,f2⟩,-⟩:=Rw.put rr8 (n:=gs.length) hIrl (k:=i) hi 0;obtain ⟨n1,n2,n3⟩:=HS7.out.nes;have z1:=cell_lt d1;have z2:=cell_lt d2;have zx:=kx8.lt;have fx:=kx8.cell.2.1 4;have xx:=kx8.cell.1 4;simp only [List.getElem?_toArray,List.getElem?_cons_zero,List.getElem?_cons_succ] at xx)
      have hst9:=(hst8.setH (m:=r) rfl (by omega) i).setR hIrl hi r
      go_roundw
      case rel=>exact ⟨k+1,by omega,by go_num,_,by rw [HSU.out.1,HSU.out.2.1,HSU.out.2.2];exact hst9⟩
      case measure=>simp [intOf];omega
  ·have hrg:rgS (usesL gs os) k H=r:=rg_is HALL.out (fun h=>absurd h hrl) hr
   have hh1:hold1 H r=H ++ [-1]:=by unfold hold1;rw [if_pos (by omega)]
   clear HALL hHn
   obtain rfl:r=H.length:=by omega
   have hA0:=alloc_below wr (.cells #[.int .i64 (-1)] 3)
   have hm1:=(cg_one wr 0 (-1) (Nat.zero_le _)).at
   have hst0:=hst.keep hA0
   have kG0:=kG.keep hA0
   have hH0:=hst0.rh
   have hsz0:=hst0.bel.size
   have HST0:=Lib.hid (And.intro hst0 kG0)
   clear hst0 kG0 hA0 hst kG
   rcases hkd with hkd|hkd|hkd|hkd|hkd
   ·subst hkd
    have hins:insOf gs (dlyL gs) R (i:Int) H.length=⟨1,H.length,gv,0,0⟩:=by unfold insOf;rw [HGN.out];rfl
    have HSU:=Lib.hid (HST.out H.length _ _ hrg hins hh1)
    clear hins hrg hh1 hops hgk
    go_wp2_with (first|(have hq0:=hm1;at_builtin;go_must (refine ints_append hq0 rfl (.tmp 77) (.tmp 78) rfl w3.heap.size (.slice ha H.length hcp) H rfl rfl hH0 hsz0 (by simp only [List.length_singleton];omega) ?_);intro vh6 w6 p1 p2 p3;clear hm1 hq0;obtain ⟨hq,hc6,hve6,hqz,hqB⟩:=p1.block (by simp);rw [List.length_append,List.length_singleton] at hve6;subst hve6;have hst6:=HST0.out.1.appH p2 p1 p3;have kG6:=HST0.out.2.grown p2 (row_blk_ne HST0.out.1.rh HST0.out.2 (by decide));have hA6:=alloc_below w6 (.cells #[.int .i64 1,.int .i64 H.length,.int .i64 gv,.int .i64 0,.int .i64 0] 206);have hA7:=alloc_below (w6.alloc (.cells #[.int .i64 1,.int .i64 H.length,.int .i64 gv,.int .i64 0,.int .i64 0] 206)) (.cells #[.int .i64 1,.int .i64 H.length,.int .i64 gv,.int .i64 0,.int .i64 0] 206);have hst7:=(hst6.keep hA6).keep hA7;have y0:=kG6.cell.1 0;have y1:=kG6.cell.1 1;have y2:=kG6.cell.1 2;have y3:=kG6.cell.1 3;have yz:=kG6.lt;have p4:=hst6.kx.cell.1 4;have pz:=hst6.kx.lt;simp only [List.getElem?_toArray,List.getElem?_cons_zero,List.getElem?_cons_succ] at y0 y1 y2 y3 p4;have hone:=inst_one (w6.alloc (.cells #[.int .i64 1,.int .i64 H.length,.int .i64 gv,.int .i64 0,.int .i64 0] 206)) ⟨1,H.length,gv,0,0⟩;rw [World.size_alloc] at hone;have hP7:=hst7.rp;have hsz7:=hst7.bel.size;have HS7:=Lib.hid hst7;clear hst7;have HKG:=Lib.hid kG6;clear hA6 hA7 hst6 kG6)|(have hq1:=hone;at_builtin;go_must (refine ins_append hone rfl (.tmp 135) (.tmp 137) rfl w3.heap.size vp P rfl rfl hP7 hsz7 (by simp only [List.length_singleton];omega) ?_);intro v8 w8 q1 q2 q3;obtain ⟨va8,vc8,hve⟩:=q1.slice;rw [List.length_append,List.length_singleton,hIcl] at hve;subst hve;obtain ⟨kx8,rh8,rr8,hst8⟩:=HS7.out.growP q2 q1;obtain ⟨⟨d1,f1⟩,-⟩:=Rw.put rh8 (n:=H.length+1) (by simp) (k:=H.length) (by omega) 0;obtain ⟨⟨d2,f2⟩,-⟩:=Rw.put rr8 (n:=gs.length) hIrl (k:=i) hi 0;obtain ⟨n1,n2,n3⟩:=HS7.out.nes;have z1:=cell_lt d1;have z2:=cell_lt d2;have zx:=kx8.lt;have fx:=kx8.cell.2.1 4;have xx:=kx8.cell.1 4;simp only [List.getElem?_toArray,List.getElem?_cons_zero,List.getElem?_cons_succ] at xx))
    have hst9:=(hst8.setH (m:=H.length) (by simp) (by omega) i).setR hIrl hi H.length
    go_roundw
    case rel=>exact ⟨k+1,by omega,by go_num,_,by rw [HSU.out.1,HSU.out.2.1,HSU.out.2.2];exact hst9⟩
    case measure=>simp [intOf];omega
   ·subst hkd
    have hins:insOf gs (dlyL gs) R (i:Int) H.length=⟨2,H.length,0,0,0⟩:=by unfold insOf;rw [HGN.out];rfl
    have HSU:=Lib.hid (HST.out H.length _ _ hrg hins hh1)
    clear hins hrg hh1 hops hgk
    go_wp2_with (first|(have hq0:=hm1;at_builtin;go_must (refine ints_append hq0 rfl (.tmp 77) (.tmp 78) rfl w3.heap.size (.slice ha H.length hcp) H rfl rfl hH0 hsz0 (by simp only [List.length_singleton];omega) ?_);intro vh6 w6 p1 p2 p3;clear hm1 hq0;obtain ⟨hq,hc6,hve6,hqz,hqB⟩:=p1.block (by simp);rw [List.length_append,List.length_singleton] at hve6;subst hve6;have hst6:=HST0.out.1.appH p2 p1 p3;have kG6:=HST0.out.2.grown p2 (row_blk_ne HST0.out.1.rh HST0.out.2 (by decide));have hA6:=alloc_below w6 (.cells #[.int .i64 2,.int .i64 H.length,.int .i64 0,.int .i64 0,.int .i64 0] 206);have hA7:=alloc_below (w6.alloc (.cells #[.int .i64 2,.int .i64 H.length,.int .i64 0,.int .i64 0,.int .i64 0] 206)) (.cells #[.int .i64 2,.int .i64 H.length,.int .i64 0,.int .i64 0,.int .i64 0] 206);have hst7:=(hst6.keep hA6).keep hA7;have y0:=kG6.cell.1 0;have y1:=kG6.cell.1 1;have y2:=kG6.cell.1 2;have y3:=kG6.cell.1 3;have yz:=kG6.lt;have p4:=hst6.kx.cell.1 4;have pz:=hst6.kx.lt;simp only [List.getElem?_toArray,List.getElem?_cons_zero,List.getElem?_cons_succ] at y0 y1 y2 y3 p4;have hone:=inst_one (w6.alloc (.cells #[.int .i64 2,.int .i64 H.length,.int .i64 0,.int .i64 0,.int .i64 0] 206)) ⟨2,H.length,0,0,0⟩;rw [World.size_alloc] at hone;have hP7:=hst7.rp;have hsz7:=hst7.bel.size;have HS7:=Lib.hid hst7;clear hst7;have HKG:=Lib.hid kG6;clear hA6 hA7 hst6 kG6)|(have hq1:=hone;at_builtin;go_must (refine ins_append hone rfl (.tmp 135) (.tmp 137) rfl w3.heap.size vp P rfl rfl hP7 hsz7 (by simp only [List.length_singleton];omega) ?_);intro v8 w8 q1 q2 q3;obtain ⟨va8,vc8,hve⟩:=q1.slice;rw [List.length_append,List.length_singleton,hIcl] at hve;subst hve;obtain ⟨kx8,rh8,rr8,hst8⟩:=HS7.out.growP q2 q1;obtain ⟨⟨d1,f1⟩,-⟩:=Rw.put rh8 (n:=H.length+1) (by simp) (k:=H.length) (by omega) 0;obtain ⟨⟨d2,f2⟩,-⟩:=Rw.put rr8 (n:=gs.length) hIrl (k:=i) hi 0;obtain ⟨n1,n2,n3⟩:=HS7.out.nes;have z1:=cell_lt d1;have z2:=cell_lt d2;have zx:=kx8.lt;have fx:=kx8.cell.2.1 4;have xx:=kx8.cell.1 4;simp only [List.getElem?_toArray,List.getElem?_cons_zero,List.getElem?_cons_succ] at xx))
    have hst9:=(hst8.setH (m:=H.length) (by simp) (by omega) i).setR hIrl hi H.length
    go_roundw
    case rel=>exact ⟨k+1,by omega,by go_num,_,by rw [HSU.out.1,HSU.out.2.1,HSU.out.2.2];exact hst9⟩
    case measure=>simp [intOf];omega
   ·subst hkd
    have hoa:=hops ga (by simp [opsG])
    obtain ⟨na,rfl⟩:∃ na:Nat,ga=na:=⟨ga.toNat,by omega⟩
    have hna:na<R.length:=by omega
    have gda:R.getD na (-1)=R[na]:=by rw [List.getD_eq_getElem?_getD,List.getElem?_eq_getElem hna];rfl
    obtain ⟨va,hva⟩:∃ v,R[na]=v:=⟨_,rfl⟩
    rw [hva] at gda
    have HVa:=Lib.hid hva
    clear hva
    have hob:=hops gb (by simp [opsG])
    obtain ⟨nb,rfl⟩:∃ nb:Nat,gb=nb:=⟨gb.toNat,by omega⟩
    have hnb:nb<R.length:=by omega
    have gdb:R.getD nb (-1)=R[nb]:=by rw [List.getD_eq_getElem?_getD,List.getElem?_eq_getElem hnb];rfl
    obtain ⟨vb,hvb⟩:∃ v,R[nb]=v:=⟨_,rfl⟩
    rw [hvb] at gdb
    have HVb:=Lib.hid hvb
    clear hvb
    have hins:insOf gs (dlyL gs) R (i:Int) H.length=⟨3,H.length,va,vb,0⟩:=by unfold insOf;rw [HGN.out];simp only [Int.toNat_natCast,gda,gdb];rfl
    have HSU:=Lib.hid (HST.out H.length _ _ hrg hins hh1)
    clear hins hrg hh1 hops hgk gda gdb
    go_wp2_with (first|(have hq0:=hm1;at_builtin;go_must (refine ints_append hq0 rfl (.tmp 77) (.tmp 78) rfl w3.heap.size (.slice ha H.length hcp) H rfl rfl hH0 hsz0 (by simp only [List.length_singleton];omega) ?_);intro vh6 w6 p1 p2 p3;clear hm1 hq0;obtain ⟨hq,hc6,hve6,hqz,hqB⟩:=p1.block (by simp);rw [List.length_append,List.length_singleton] at hve6;subst hve6;have hst6:=HST0.out.1.appH p2 p1 p3;have kG6:=HST0.out.2.grown p2 (row_blk_ne HST0.out.1.rh HST0.out.2 (by decide));have hA6:=alloc_below w6 (.cells #[.int .i64 3,.int .i64 H.length,.int .i64 va,.int .i64 vb,.int .i64 0] 206);have hA7:=alloc_below (w6.alloc (.cells #[.int .i64 3,.int .i64 H.length,.int .i64 va,.int .i64 vb,.int .i64 0] 206)) (.cells #[.int .i64 3,.int .i64 H.length,.int .i64 va,.int .i64 vb,.int .i64 0] 206);have hst7:=(hst6.keep hA6).keep hA7;have y0:=kG6.cell.1 0;have y1:=kG6.cell.1 1;have y2:=kG6.cell.1 2;have y3:=kG6.cell.1 3;have yz:=kG6.lt;have p4:=hst6.kx.cell.1 4;have pz:=hst6.kx.lt;simp only [List.getElem?_toArray,List.getElem?_cons_zero,List.getElem?_cons_succ] at y0 y1 y2 y3 p4;have ra:=Rw.cell hst6.rr na hna;rw [HVa.out] at ra;have rza:=cell_lt ra;have rb:=Rw.cell hst6.rr nb hnb;rw [HVb.out] at rb;have rzb:=cell_lt rb;have hone:=inst_one (w6.alloc (.cells #[.int .i64 3,.int .i64 H.length,.int .i64 va,.int .i64 vb,.int .i64 0] 206)) ⟨3,H.length,va,vb,0⟩;rw [World.size_alloc] at hone;have hP7:=hst7.rp;have hsz7:=hst7.bel.size;have HS7:=Lib.hid hst7;clear hst7;have HKG:=Lib.hid kG6;clear hA6 hA7 hst6 kG6)|(have hq1:=hone;at_builtin;go_must (refine ins_append hone rfl (.tmp 135) (.tmp 137) rfl w3.heap.size vp P rfl rfl hP7 hsz7 (by simp only [List.length_singleton];omega) ?_);intro v8 w8 q1 q2 q3;obtain ⟨va8,vc8,hve⟩:=q1.slice;rw [List.length_append,List.length_singleton,hIcl] at hve;subst hve;obtain ⟨kx8,rh8,rr8,hst8⟩:=HS7.out.growP q2 q1;obtain ⟨⟨d1,f1⟩,-⟩:=Rw.put rh8 (n:=H.length+1) (by simp) (k:=H.length) (by omega) 0;obtain ⟨⟨d2,f2⟩,-⟩:=Rw.put rr8 (n:=gs.length) hIrl (k:=i) hi 0;obtain ⟨n1,n2,n3⟩:=HS7.out.nes;have z1:=cell_lt d1;have z2:=cell_lt d2;have zx:=kx8.lt;have fx:=kx8.cell.2.1 4;have xx:=kx8.cell.1 4;simp only [List.getElem?_toArray,List.getElem?_cons_zero,List.getElem?_cons_succ] at xx))
    have hst9:=(hst8.setH (m:=H.length) (by simp) (by omega) i).setR hIrl hi H.length
    go_roundw
    case rel=>exact ⟨k+1,by omega,by go_num,_,by rw [HSU.out.1,HSU.out.2.1,HSU.out.2.2];exact hst9⟩
    case measure=>simp [intOf];omega
   ·subst hkd
    have hoa:=hops ga (by simp [opsG])
    obtain ⟨na,rfl⟩:∃ na:Nat,ga=na:=⟨ga.toNat,by omega⟩
    have hna:na<R.length:=by omega
    have gda:R.getD na (-1)=R[na]:=by rw [List.getD_eq_getElem?_getD,List.getElem?_eq_getElem hna];rfl
    obtain ⟨va,hva⟩:∃ v,R[na]=v:=⟨_,rfl⟩
    rw [hva] at gda
    have HVa:=Lib.hid hva
    clear hva
    have hins:insOf gs (dlyL gs) R (i:Int) H.length=⟨4,H.length,va,0,gv⟩:=by unfold insOf;rw [HGN.out];simp only [Int.toNat_natCast,gda];rfl
    have HSU:=Lib.hid (HST.out H.length _ _ hrg hins hh1)
    clear hins hrg hh1 hops hgk gda
    go_wp2_with (first|(have hq0:=hm1;at_builtin;go_must (refine ints_append hq0 rfl (.tmp 77) (.tmp 78) rfl w3.heap.size (.slice ha H.length hcp) H rfl rfl hH0 hsz0 (by simp only [List.length_singleton];omega) ?_);intro vh6 w6 p1 p2 p3;clear hm1 hq0;obtain ⟨hq,hc6,hve6,hqz,hqB⟩:=p1.block (by simp);rw [List.length_append,List.length_singleton] at hve6;subst hve6;have hst6:=HST0.out.1.appH p2 p1 p3;have kG6:=HST0.out.2.grown p2 (row_blk_ne HST0.out.1.rh HST0.out.2 (by decide));have hA6:=alloc_below w6 (.cells #[.int .i64 4,.int .i64 H.length,.int .i64 va,.int .i64 0,.int .i64 gv] 206);have hA7:=alloc_below (w6.alloc (.cells #[.int .i64 4,.int .i64 H.length,.int .i64 va,.int .i64 0,.int .i64 gv] 206)) (.cells #[.int .i64 4,.int .i64 H.length,.int .i64 va,.int .i64 0,.int .i64 gv] 206);have hst7:=(hst6.keep hA6).keep hA7;have y0:=kG6.cell.1 0;have y1:=kG6.cell.1 1;have y2:=kG6.cell.1 2;have y3:=kG6.cell.1 3;have yz:=kG6.lt;have p4:=hst6.kx.cell.1 4;have pz:=hst6.kx.lt;simp only [List.getElem?_toArray,List.getElem?_cons_zero,List.getElem?_cons_succ] at y0 y1 y2 y3 p4;have ra:=Rw.cell hst6.rr na hna;rw [HVa.out] at ra;have rza:=cell_lt ra;have hone:=inst_one (w6.alloc (.cells #[.int .i64 4,.int .i64 H.length,.int .i64 va,.int .i64 0,.int .i64 gv] 206)) ⟨4,H.length,va,0,gv⟩;rw [World.size_alloc] at hone;have hP7:=hst7.rp;have hsz7:=hst7.bel.size;have HS7:=Lib.hid hst7;clear hst7;have HKG:=Lib.hid kG6;clear hA6 hA7 hst6 kG6)|(have hq1:=hone;at_builtin;go_must (refine ins_append hone rfl (.tmp 135) (.tmp 137) rfl w3.heap.size vp P rfl rfl hP7 hsz7 (by simp only [List.length_singleton];omega) ?_);intro v8 w8 q1 q2 q3;obtain ⟨va8,vc8,hve⟩:=q1.slice;rw [List.length_append,List.length_singleton,hIcl] at hve;subst hve;obtain ⟨kx8,rh8,rr8,hst8⟩:=HS7.out.growP q2 q1;obtain ⟨⟨d1,f1⟩,-⟩:=Rw.put rh8 (n:=H.length+1) (by simp) (k:=H.length) (by omega) 0;obtain ⟨⟨d2,f2⟩,-⟩:=Rw.put rr8 (n:=gs.length) hIrl (k:=i) hi 0;obtain ⟨n1,n2,n3⟩:=HS7.out.nes;have z1:=cell_lt d1;have z2:=cell_lt d2;have zx:=kx8.lt;have fx:=kx8.cell.2.1 4;have xx:=kx8.cell.1 4;simp only [List.getElem?_toArray,List.getElem?_cons_zero,List.getElem?_cons_succ] at xx))
    have hst9:=(hst8.setH (m:=H.length) (by simp) (by omega) i).setR hIrl hi H.length
    go_roundw
    case rel=>exact ⟨k+1,by omega,by go_num,_,by rw [HSU.out.1,HSU.out.2.1,HSU.out.2.2];exact hst9⟩
    case measure=>simp [intOf];omega
   ·subst hkd
    go_wp2_with (have hq0:=hm1;at_builtin;go_must (refine ints_append hq0 rfl (.tmp 77) (.tmp 78) rfl w3.heap.size (.slice ha H.length hcp) H rfl rfl hH0 hsz0 (by simp only [List.length_singleton];omega) ?_);intro vh6 w6 p1 p2 p3;clear hm1 hq0;obtain ⟨hq,hc6,hve6,hqz,hqB⟩:=p1.block (by simp);rw [List.length_append,List.length_singleton] at hve6;subst hve6;have hst6:=HST0.out.1.appH p2 p1 p3;have kG6:=HST0.out.2.grown p2 (row_blk_ne HST0.out.1.rh HST0.out.2 (by decide));have HST6:=Lib.hid hst6;clear hst6;have y0:=kG6.cell.1 0;have yz:=kG6.lt;simp only [List.getElem?_toArray,List.getElem?_cons_zero,List.getElem?_cons_succ] at y0;have HKG:=Lib.hid kG6;clear kG6)
    have hst:=HST6.out
    generalize hww:w6=wo at *
    clear hww
    have hA6:=alloc_below wo (.cells #[.int .i64 5,.int .i64 H.length,.int .i64 0,.int .i64 0,.int .i64 0] 206)
    have kI:=Bk.new wo 206 #[.int .i64 5,.int .i64 H.length,.int .i64 0,.int .i64 0,.int .i64 0]
    clear HKG y0 yz hops hgk
    generalize (wo.alloc (.cells #[.int .i64 5,.int .i64 H.length,.int .i64 0,.int .i64 0,.int .i64 0] 206))=w7 at *
    go_loopw [87] (fun q wx=>∃ m:Nat,∃ x:Int,m≤(dlyL gs).length∧q=.int .i64 m∧DxP (dlyL gs) i m x∧Bk wx wo.heap.size 206 #[.int .i64 5,.int .i64 H.length,.int .i64 x,.int .i64 0,.int .i64 0]∧Below wo.heap.size wo wx) (fun q _=>(dlyL gs).length - (intOf q).toNat)
    case atStart=>exact ⟨0,0,Nat.zero_le _,rfl,DxP.zero _ _,kI,hA6⟩
    case round =>
    clear kI hA6
    obtain ⟨m,x,hm,rfl,hdx,kI,hb6⟩:=hrel
    by_cases hml:m<(dlyL gs).length
    ·obtain ⟨db,dq,rfl,g0⟩:=ints_cell ((hvd0.keep hst.bel).keep hb6).at hml
     have gz:=cell_lt g0
     by_cases heq:(dlyL gs)[m]=i
     ·have HDX:=Lib.hid (hdx.hit (dly_nodup gs) hml heq)
      rw [heq] at g0
      have kI2:=kI.set 2 (.int .i64 m)
      have hb62:=hb6.setCell (p:=⟨wo.heap.size,2,none⟩) (Nat.le_refl _) (.int .i64 m)
      have i2:=kI.cell.1 2
      have if2:=kI.cell.2.1 2
      have iz:=kI.lt
      simp only [List.getElem?_toArray,List.getElem?_cons_zero,List.getElem?_cons_succ] at i2
      have HK:=Lib.hid (And.intro kI2 hb62)
      clear hdx kI hb6 kI2 hb62 heq
      go_wp2
      go_roundw
      case rel=>exact ⟨m+1,m,by omega,by go_num,HDX.out,by simpa using HK.out.1,HK.out.2⟩
      case measure=>simp [intOf];omega
     ·have HDX:=Lib.hid (hdx.miss hml heq)
      generalize (dlyL gs)[m]=z at *
      have HK:=Lib.hid (And.intro kI hb6)
      clear hdx kI hb6
      go_wp2
      go_roundw
      case rel=>exact ⟨m+1,x,by omega,by go_num,HDX.out,HK.out.1,HK.out.2⟩
      case measure=>simp [intOf];omega
    ·obtain rfl:m=(dlyL gs).length:=by omega
     have hins:insOf gs (dlyL gs) R (i:Int) H.length=⟨5,H.length,x,0,0⟩:=by unfold insOf;rw [HGN.out,hdx.all];rfl
     have HSU:=Lib.hid (HST.out H.length _ _ hrg hins hh1)
     replace hst:=hst.keep hb6
     clear hins hrg hh1 hdx hb6
     have hA7:=alloc_below wr (.cells #[.int .i64 5,.int .i64 H.length,.int .i64 x,.int .i64 0,.int .i64 0] 206)
     have hst7:=hst.keep hA7
     have hone:=inst_one wr ⟨5,H.length,x,0,0⟩
     have p4:=hst.kx.cell.1 4
     have pz:=hst.kx.lt
     obtain ⟨i0,-,iz⟩:=kI.cell
     have i1:=i0 1
     have i2:=i0 2
     have i3:=i0 3
     have i4:=i0 4
     have i0:=i0 0
     simp only [List.getElem?_toArray,List.getElem?_cons_zero,List.getElem?_cons_succ] at p4 i0 i1 i2 i3 i4
     clear hA7 hst kI
     have hP7:=hst7.rp
     have hsz7:=hst7.bel.size
     have HS7:=Lib.hid hst7
     clear hst7
     go_wp2_with (have hq1:=hone;at_builtin;go_must (refine ins_append hone rfl (.tmp 135) (.tmp 137) rfl w3.heap.size vp P rfl rfl hP7 hsz7 (by simp only [List.length_singleton];omega) ?_);intro v8 w8 q1 q2 q3;obtain ⟨va8,vc8,hve⟩:=q1.slice;rw [List.length_append,List.length_singleton,hIcl] at hve;subst hve;obtain ⟨kx8,rh8,rr8,hst8⟩:=HS7.out.growP q2 q1;obtain ⟨⟨d1,f1⟩,-⟩:=Rw.put rh8 (n:=H.length+1) (by simp) (k:=H.length) (by omega) 0;obtain ⟨⟨d2,f2⟩,-⟩:=Rw.put rr8 (n:=gs.length) hIrl (k:=i) hi 0;obtain ⟨n1,n2,n3⟩:=HS7.out.nes;have z1:=cell_lt d1;have z2:=cell_lt d2;have zx:=kx8.lt;have fx:=kx8.cell.2.1 4;have xx:=kx8.cell.1 4;simp only [List.getElem?_toArray,List.getElem?_cons_zero,List.getElem?_cons_succ] at xx)
     have hst9:=(hst8.setH (m:=H.length) (by simp) (by omega) i).setR hIrl hi H.length
     go_roundw
     case rel=>exact ⟨k+1,by omega,by go_num,_,by rw [HSU.out.1,HSU.out.2.1,HSU.out.2.2];exact hst9⟩
     case measure=>simp [intOf];omega
 have hI:=cm_inv HH.out (listL gs os).length (Nat.le_refl _)
 obtain rfl:k=(listL gs os).length:=by omega
 change CmW w3 inp os.length (dlyL gs).length 0 wr _ ((.slice (some ⟨rq,0,none⟩) gs.length rc)) vp (cmEnd gs os).holds (cmEnd gs os).reg (cmEnd gs os).code at hst
 change CmI p inp gs os (listL gs os).length (cmEnd gs os) at hI
 obtain ⟨s,hs⟩:∃ s,cmEnd gs os=s:=⟨_,rfl⟩
 rw [hs] at hst hI
 obtain ⟨H,R,P⟩:=s
 have HS:=Lib.hid hs
 obtain ⟨hIrl,hIho,hIrg,hIcl,hIhl,-⟩:=hI
 simp only at hst hIrl hIcl hIhl
 clear hs hIho hIrg
 obtain ⟨ha,hcp,rfl⟩:=hst.rh.slice
 clear hlk
 go_wp2_with fail
 go_loopw [151] (fun q wr=>∃ k2:Nat,k2≤(dlyL gs).length∧q=.int .i64 k2∧∃ vp,CmW w3 inp os.length (dlyL gs).length 0 wr (.slice ha H.length hcp) ((.slice (some ⟨rq,0,none⟩) gs.length rc)) vp H R (P ++ stoL gs (dlyL gs) R k2)) (fun q _=>(dlyL gs).length - (intOf q).toNat)
 case atStart=>exact ⟨0,Nat.zero_le _,rfl,vp,by rw [show stoL gs (dlyL gs) R 0=[] from rfl,List.append_nil];exact hst⟩
 case round =>
 clear hst
 obtain ⟨k2,hk2,rfl,vp2,hst⟩:=hrel
 by_cases hlk2:k2<(dlyL gs).length
 ·obtain ⟨db,dq,rfl,d0⟩:=ints_cell (hvd0.keep hst.bel).at hlk2
  have hir:=dly_mem (List.getElem_mem hlk2)
  have hca:=ci_dly HH.out (List.getElem_mem hlk2)
  have hsucc:=stoL_succ gs (dlyL gs) R k2
  rw [show (dlyL gs).getD k2 0=(dlyL gs)[k2] by rw [List.getD_eq_getElem?_getD,List.getElem?_eq_getElem hlk2];rfl] at hsucc
  obtain ⟨i,hii⟩:∃ i:Nat,(dlyL gs)[k2]=i:=⟨((dlyL gs)[k2]).toNat,by omega⟩
  rw [hii] at d0 hir hca hsucc
  have hi:i<gs.length:=by omega
  rw [gNo_get hi] at hca hsucc
  have c1:=((HAT.out i hi).keep (hB.trans (hst.bel.mono hB.size))).2.1
  generalize (gs[i]).a=ga at c1 hca hsucc
  obtain ⟨na,rfl⟩:∃ na:Nat,ga=na:=⟨ga.toNat,by omega⟩
  have hna:na<R.length:=by omega
  have hna2:na<gs.length:=by omega
  have hna3:(na:Int)<(gs.length:Int):=by omega
  have ra:=Rw.cell hst.rr na hna
  rw [Int.toNat_natCast,show R.getD na (-1)=R[na] by rw [List.getD_eq_getElem?_getD,List.getElem?_eq_getElem hna];rfl] at hsucc
  generalize R[na]=va at ra hsucc
  have HSC:=Lib.hid hsucc
  have bz:=cell_lt c1
  have hi3:(i:Int)<(gs.length:Int):=by omega
  clear hsucc hii hir hca
  have hPL:(P ++ stoL gs (dlyL gs) R k2).length=(listL gs os).length+k2:=by rw [List.length_append,hIcl];simp [stoL]
  have HPL:=Lib.hid hPL
  obtain ⟨pa,pc,hvp⟩:=hst.rp.slice
  rw [hPL] at hvp
  subst hvp
  generalize hPP:P ++ stoL gs (dlyL gs) R k2=PP at *
  generalize hN:(listL gs os).length+k2=N at *
  have hNN:N≤1000:=by omega
  have xk:=kC.keep hst.bel
  have x1:=xk.cell.1 1
  have xz:=xk.lt
  have p4:=hst.kx.cell.1 4
  have pz:=hst.kx.lt
  simp only [List.getElem?_toArray,List.getElem?_cons_zero,List.getElem?_cons_succ] at x1 p4
  have dz:=cell_lt d0
  have rz:=cell_lt ra
  have hPI:(⟨6,va,(k2:Int),0,0⟩:InI)=⟨6,va,(k2:Int),0,0⟩:=rfl
  go_wp2_with fail
  have up1:∀ {w':World},Exc NoT wr.drew w' → Below wr.heap.size wr w':=fun h=>(Below.refl wr.heap.size wr).drew.trans (h.toBelow.mono (by simp))
  refine region_acts2 (C:=Exc (NoT) _) 17 [0,1,2,3,4,5,6,7,8,9,10,11,12,13] [14,15,16] (by kernel_rfl) (by kernel_rfl) (Exc.grows _ _) (Exc.refl _ _) ?_
  iterate 13 (apply x_st rfl rfl rfl;(focus intro u hc' hf';go_simp <;> rfl);intro K hK;go_simp;apply hK;clear hK K)
  refine x_make rfl rfl rfl (Exc.grows _ _) (Exc.refl _ _) (fun b=>.slice (some ⟨b,0,none⟩) 1 1) (fun K hK=>?_)
  apply Exists.intro
  refine ⟨fun w' hw'=>?_,fun bb w5 hw5 hb45 hbo hNb hnb=>?_⟩
  ·obtain ⟨hc',hf'⟩:=hw'.cell
   try simp only [World.size_drew] at hc' hf'
   go_simp
   rfl
  go_simp
  refine hK _ _ _ ?_
  clear hK K
  refine x_nil ?_
  have hb15:Below wr.heap.size wr w5:=up1 hw5
  have hst5:=hst.keep hb15
  have hle5:=hst5.bel.size
  refine ⟨Exc (fun j=>j=w3.heap.size∨(Value.slice pa N pc).ownBlock=some j) w5,w5.heap.size,Exc.grows _ _,Exc.refl _ _,?_⟩
  refine x_insapp rfl rfl rfl (Exc.refl _ _) (.tmp 157) (.tmp 169) rfl w3.heap.size (.slice pa N pc) PP [⟨6,va,k2,0,0⟩] bb 1 1 rfl rfl rfl (fun j hj=>.inl ⟨(World.ownsRow.lt hst5.rp j hj).2,.inr hj⟩) hle5 (by rw [HPL.out];omega) hst5.rp (by simpa [inCells] using hbo) ?_
  intro K hK w6 w7 v7 hw6 hb56 hed hgr hw7 hv7
  obtain ⟨a7,c7,hv7e⟩:=hed.slice
  rw [List.length_append,List.length_singleton,HPL.out] at hv7e
  subst hv7e
  go_simp
  refine hK _ _ _ ?_
  clear hK K
  iterate 1 (apply x_sT rfl rfl rfl;(focus intro u hc' hf';(try simp only [World.size_drew] at hc' hf');go_simp <;> rfl);intro K hK;go_simp;apply hK;clear hK K)
  refine x_do rfl rfl rfl (Exc.grows _ _) hw7 (fun K hK=>?_)
  intro w8 hw8 hb78
  have hst6:=hst5.keep hb56
  obtain ⟨kx7,rh7,rr7,-⟩:=hst6.growP hgr hed
  have hbel7:=hst6.bel.grown hgr hst6.bel.size (fun j hj=>(World.ownsRow.lt hst6.rp j hj).1)
  have hst9:=CmW.mk4 (kx7.keep hb78) (rh7.keep hb78) (rr7.keep hb78) (hed.keep hb78) hst6.ap (hbel7.trans (hb78.mono hbel7.size))
  obtain ⟨m0,m1,m2⟩:=(kx7.keep hb78).cell
  have hbig:w3.heap.size<w5.heap.size:=hst5.kx.lt
  refine ⟨w8.setCell ⟨w3.heap.size,4,none⟩ (.slice a7 (N+1) c7),?_,⟨exc_set hw8 (.inr (.inl rfl)) _,by simp,fun j hN _ _=>by rw [Below.heap_setCell _ _ _ _ (fun h=>by simp at h;omega)]⟩,?_⟩
  ·go_simp
  go_simp
  refine hK _ _ _ ?_
  clear hK K
  refine x_nil ?_
  have HS9:=Lib.hid hst9
  generalize (w8.setCell ⟨w3.heap.size,4,none⟩ (.slice a7 (N+1) c7))=W9 at *
  clear hst5 kx7 rh7 rr7 hst6 hst9 m0 m1 m2 hed hgr hv7 hb15 hst x1 xz p4 pz d0 dz ra rz
  go_wp2
  go_roundw
  case rel=>exact ⟨k2+1,by omega,by go_num,_,by rw [HSC.out,← List.append_assoc,hPP];exact HS9.out⟩
  case measure=>simp [intOf];omega
 obtain rfl:k2=(dlyL gs).length:=by omega
 clear hlk2
 have xk:=kC.keep hst.bel
 have x2:=xk.cell.1 2
 have xz:=xk.lt
 simp only [List.getElem?_toArray,List.getElem?_cons_zero,List.getElem?_cons_succ] at x2
 go_wp2_with fail
 go_loopw [176] (fun q wr=>∃ k2:Nat,k2≤os.length∧q=.int .i64 k2∧∃ vp,CmW w3 inp os.length (dlyL gs).length 0 wr (.slice ha H.length hcp) ((.slice (some ⟨rq,0,none⟩) gs.length rc)) vp H R ((P ++ stoL gs (dlyL gs) R (dlyL gs).length) ++ outL os R k2)) (fun q _=>os.length - (intOf q).toNat)
 case atStart=>exact ⟨0,Nat.zero_le _,rfl,vp2,by rw [show outL os R 0=[] from rfl,List.append_nil];exact hst⟩
 case round =>
 clear hst x2 xz xk
 obtain ⟨k2,hk2,rfl,vp3,hst⟩:=hrel
 by_cases hlk2:k2<os.length
 ·obtain ⟨db,dq,rfl,d0⟩:=ints_cell (HO.out.keep (hB.trans (hst.bel.mono hB.size))) hlk2
  have hir:=HH.out.orange _ (List.getElem_mem hlk2)
  have hsucc:=outL_succ os R k2
  rw [show os.getD k2 0=os[k2] by rw [List.getD_eq_getElem?_getD,List.getElem?_eq_getElem hlk2];rfl] at hsucc
  obtain ⟨na,hii⟩:∃ i:Nat,os[k2]=i:=⟨(os[k2]).toNat,by omega⟩
  rw [hii] at d0 hir hsucc
  have hna:na<R.length:=by omega
  have hna2:na<gs.length:=by omega
  have hna3:(na:Int)<(gs.length:Int):=by omega
  have ra:=Rw.cell hst.rr na hna
  rw [Int.toNat_natCast,show R.getD na (-1)=R[na] by rw [List.getD_eq_getElem?_getD,List.getElem?_eq_getElem hna];rfl] at hsucc
  generalize R[na]=va at ra hsucc
  have HSC:=Lib.hid hsucc
  clear hsucc hii hir
  have hPL:((P ++ stoL gs (dlyL gs) R (dlyL gs).length) ++ outL os R k2).length=(listL gs os).length+(dlyL gs).length+k2:=by rw [List.length_append,List.length_append,hIcl];simp [stoL,outL]
  have HPL:=Lib.hid hPL
  obtain ⟨pa,pc,hvp⟩:=hst.rp.slice
  rw [hPL] at hvp
  subst hvp
  generalize hPP:P ++ stoL gs (dlyL gs) R (dlyL gs).length ++ outL os R k2=PP at *
  generalize hN:(listL gs os).length+(dlyL gs).length+k2=N at *
  have hNN:N≤1000:=by omega
  have xk:=kC.keep hst.bel
  have x1:=xk.cell.1 1
  have xz:=xk.lt
  have p4:=hst.kx.cell.1 4
  have pz:=hst.kx.lt
  simp only [List.getElem?_toArray,List.getElem?_cons_zero,List.getElem?_cons_succ] at x1 p4
  have dz:=cell_lt d0
  have rz:=cell_lt ra
  have hPI:(⟨7,va,(k2:Int),0,0⟩:InI)=⟨7,va,(k2:Int),0,0⟩:=rfl
  go_wp2_with fail
  have up1:∀ {w':World},Exc NoT wr.drew w' → Below wr.heap.size wr w':=fun h=>(Below.refl wr.heap.size wr).drew.trans (h.toBelow.mono (by simp))
  refine region_acts2 (C:=Exc (NoT) _) 12 [0,1,2,3,4,5,6,7,8] [9,10,11] (by kernel_rfl) (by kernel_rfl) (Exc.grows _ _) (Exc.refl _ _) ?_
  iterate 8 (apply x_st rfl rfl rfl;(focus intro u hc' hf';go_simp <;> rfl);intro K hK;go_simp;apply hK;clear hK K)
  refine x_make rfl rfl rfl (Exc.grows _ _) (Exc.refl _ _) (fun b=>.slice (some ⟨b,0,none⟩) 1 1) (fun K hK=>?_)
  apply Exists.intro
  refine ⟨fun w' hw'=>?_,fun bb w5 hw5 hb45 hbo hNb hnb=>?_⟩
  ·obtain ⟨hc',hf'⟩:=hw'.cell
   try simp only [World.size_drew] at hc' hf'
   go_simp
   rfl
  go_simp
  refine hK _ _ _ ?_
  clear hK K
  refine x_nil ?_
  have hb15:Below wr.heap.size wr w5:=up1 hw5
  have hst5:=hst.keep hb15
  have hle5:=hst5.bel.size
  refine ⟨Exc (fun j=>j=w3.heap.size∨(Value.slice pa N pc).ownBlock=some j) w5,w5.heap.size,Exc.grows _ _,Exc.refl _ _,?_⟩
  refine x_insapp rfl rfl rfl (Exc.refl _ _) (.tmp 182) (.tmp 189) rfl w3.heap.size (.slice pa N pc) PP [⟨7,va,k2,0,0⟩] bb 1 1 rfl rfl rfl (fun j hj=>.inl ⟨(World.ownsRow.lt hst5.rp j hj).2,.inr hj⟩) hle5 (by rw [HPL.out];omega) hst5.rp (by simpa [inCells] using hbo) ?_
  intro K hK w6 w7 v7 hw6 hb56 hed hgr hw7 hv7
  obtain ⟨a7,c7,hv7e⟩:=hed.slice
  rw [List.length_append,List.length_singleton,HPL.out] at hv7e
  subst hv7e
  go_simp
  refine hK _ _ _ ?_
  clear hK K
  iterate 1 (apply x_sT rfl rfl rfl;(focus intro u hc' hf';(try simp only [World.size_drew] at hc' hf');go_simp <;> rfl);intro K hK;go_simp;apply hK;clear hK K)
  refine x_do rfl rfl rfl (Exc.grows _ _) hw7 (fun K hK=>?_)
  intro w8 hw8 hb78
  have hst6:=hst5.keep hb56
  obtain ⟨kx7,rh7,rr7,-⟩:=hst6.growP hgr hed
  have hbel7:=hst6.bel.grown hgr hst6.bel.size (fun j hj=>(World.ownsRow.lt hst6.rp j hj).1)
  have hst9:=CmW.mk4 (kx7.keep hb78) (rh7.keep hb78) (rr7.keep hb78) (hed.keep hb78) hst6.ap (hbel7.trans (hb78.mono hbel7.size))
  obtain ⟨m0,m1,m2⟩:=(kx7.keep hb78).cell
  have hbig:w3.heap.size<w5.heap.size:=hst5.kx.lt
  refine ⟨w8.setCell ⟨w3.heap.size,4,none⟩ (.slice a7 (N+1) c7),?_,⟨exc_set hw8 (.inr (.inl rfl)) _,by simp,fun j hN _ _=>by rw [Below.heap_setCell _ _ _ _ (fun h=>by simp at h;omega)]⟩,?_⟩
  ·go_simp
  go_simp
  refine hK _ _ _ ?_
  clear hK K
  refine x_nil ?_
  have HS9:=Lib.hid hst9
  generalize (w8.setCell ⟨w3.heap.size,4,none⟩ (.slice a7 (N+1) c7))=W9 at *
  clear hst5 kx7 rh7 rr7 hst6 hst9 m0 m1 m2 hed hgr hv7 hb15 hst x1 xz p4 pz d0 dz ra rz
  go_wp2
  go_roundw
  case rel=>exact ⟨k2+1,by omega,by go_num,_,by rw [HSC.out,← List.append_assoc,hPP];exact HS9.out⟩
  case measure=>simp [intOf];omega
 obtain rfl:k2=os.length:=by omega
 obtain ⟨p0,pf,pz⟩:=hst.kx.cell
 have p1:=p0 1
 have p2:=p0 2
 have p3:=p0 3
 have p4:=p0 4
 have p0:=p0 0
 have kZ9:=kZ.keep hst.bel
 obtain ⟨z0,zf,zz⟩:=kZ9.cell
 have z1:=z0 1
 have z2:=z0 2
 have z3:=z0 3
 have z4:=z0 4
 have z0:=z0 0
 simp only [List.getElem?_toArray,List.getElem?_cons_zero,List.getElem?_cons_succ] at p0 p1 p2 p3 p4 z0 z1 z2 z3 z4
 obtain ⟨pa,pc,hvp⟩:=hst.rp.slice
 have hne:w.heap.size+1 ≠ w3.heap.size:=fun e=>by have:=kZ.lt;omega
 have hne2:w3.heap.size ≠ w.heap.size+1:=fun e=>hne e.symm
 have hst9:=hst.putN (H.length:Int)
 have kZ10:=kZ9.other ⟨w3.heap.size,3,none⟩ (.int .i64 (H.length:Int)) hne
 have HF:=Lib.hid (And.intro (owns_set5 hst9.rp kZ10 (by decide)) (And.intro hst9.bel (hB.trans (hst9.bel.mono hB.size))))
 subst hvp
 generalize hQ:(P ++ stoL gs (dlyL gs) R (dlyL gs).length) ++ outL os R os.length=QQ at *
 clear hst hst9 kZ9 kZ10
 go_wp2
 refine bodyPost_ret (v:=.agg #[.int .i64 inp,.int .i64 os.length,.int .i64 (dlyL gs).length,.int .i64 H.length,.slice pa QQ.length pc]) (by simp [results,Tryz.results139,go_sem,z0,z1,z2,z3,z4,zf,zz]) rfl ?_
 have hcode:(progL inp gs os).code=QQ:=by
  unfold progL
  simp only
  rw [HS.out,← hQ,List.append_assoc]
 refine ⟨.slice pa QQ.length pc,by rw [HS.out],?_,?_⟩
 ·rw [hcode]
  exact IRw.mono (show IRw _ w3.heap.size _ _ from HF.out.1 _ _ _ _ _) hB.size
 ·have hb:=HF.out.2.2
  exact ((((hb.setCell (by simp) _).setCell (by simp) _).setCell (by simp) _).setCell (by simp) _).setCell (by simp) _
end Go.Proofs.YtbljmfcifljkaaaGreatDoor
