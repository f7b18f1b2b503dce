/-
  The reference's sxReadDef: small facts. Own work.
-/
import Derived.Test.YtldhpaflmnlcaaaGreatDoorQFF
import Derived.Test.YtldhpaflmnlcaaaGreatDoorQCC
import Derived.Test.YtldhpaflmnlcaaaGreatDoorQL
set_option linter.all false
set_option maxRecDepth 100000
set_option maxHeartbeats 8000000
namespace Go.Proofs.YtldhpaflmnlcaaaGreatDoor
open Go.RowKit
theorem tokFrom_code (s:ByteArray):∀ (n k:Nat),s.size - k=n → ∀ p,tokFrom s k=.error p → p.2 ≠ 0:=by
 intro n
 induction n using Nat.strongRecOn with
 | _ n ih =>
  intro k hn p h
  rw [tokFrom] at h
  split at h
  ·rename_i hk
   split at h
   ·exact ih (s.size - (k+1)) (by omega) (k+1) rfl p h
   ·split at h
    ·have he:=(endOf_le (p:=lodB) (s:=s) (i:=k+1) hk).1
     cases hr:tokFrom s (endOf lodB s (k+1)) with
     | ok r=>rw [hr] at h;cases h
     | error e=>rw [hr] at h;cases h;exact ih (s.size - endOf lodB s (k+1)) (by omega) _ rfl p hr
    ·split at h
     ·split at h
      ·cases h;simp
      ·have he:=(endOf_le (p:=digB) (s:=s) (i:=k+1) hk).1
       cases hr:tokFrom s (endOf digB s (k+1)) with
       | ok r=>rw [hr] at h;cases h
       | error e=>rw [hr] at h;cases h;exact ih (s.size - endOf digB s (k+1)) (by omega) _ rfl p hr
     ·split at h
      ·cases hr:tokFrom s (k+1) with
       | ok r=>rw [hr] at h;cases h
       | error e=>rw [hr] at h;cases h;exact ih (s.size - (k+1)) (by omega) _ rfl p hr
      ·cases h;simp
  ·cases h
theorem tokL_code {s:ByteArray} {p:Int × Int} (h:tokL s=.error p):p.2 ≠ 0:=by
 unfold tokL at h
 split at h
 ·cases h;simp
 ·exact tokFrom_code s _ 0 rfl p h
theorem chk_code {leaf:Nd → Option W2}:∀ (r:Rd) (i:Nat) (st:List W2) (p:Int × Int),chkGo leaf r i st=some p → p.2 ≠ 0
 | [],_,_,p,h=>by cases h
 | x :: r,i,st,p,h=>by
  unfold chkGo at h
  split at h
  ·cases h;simp
  ·split at h
   ·split at h
    ·split at h
     ·exact chk_code r _ _ p h
     ·cases h;simp
    ·cases h;simp
   ·split at h
    ·exact chk_code r _ _ p h
    ·cases h;simp only;split <;> simp
theorem defL_none {L:List Df} {s:ByteArray} (h:pDefL L s=none):defL L s=none:=by unfold defL;rw [h]
theorem sx_start {w:World} {B:Nat} {v:Value} {ts:List Tk} (h:TksOwn w B v ts) (hok:TksOk ts) (hl:1≤ts.length) (hm:ts.length≤40000) :
  SxAt (w.heap.size+1) w.heap.size ts (w.alloc (.cells #[v,.int .i64 1,.slice none 0 0,.slice none 0 0,.bool false] 143)) 1 [] [] false:=by
 refine ⟨v,.slice none 0 0,.slice none 0 0,by omega,by simp,by simp,by simp,by simp,by simp,by simp,fun i=>by simp,(tks_at h hok).keep (alloc_below _ _),?_,hl,hm,⟨by simp,.inl ⟨rfl,rfl⟩⟩,⟨by simp,.inl ⟨rfl,rfl⟩⟩⟩
 rintro b o n c rfl
 rcases h.2 with ⟨e,_⟩|⟨g,cap,cur,e,_,hg,_⟩
 ·cases e
 ·cases e
  have:=(Array.getElem?_eq_some_iff.1 hg).1
  omega
theorem ints_keep {w w':World} (hb:Below w.heap.size w w') {v:Value} {xs:List Int} (h:IntsAt w v xs):IntsAt w' v xs:=SlAt.mono h fun _ _ _ ⟨hi,r⟩=>⟨hi,cell_keep hb r⟩
end Go.Proofs.YtldhpaflmnlcaaaGreatDoor
/-
  The reference's sxReadDef: nodes with a fault. Own work.
-/
namespace Go.Proofs.YtldhpaflmnlcaaaGreatDoor
open Go.RowKit
theorem sxRd_fault (a:Option Addr) (cap:Nat) (L:List Df) (s:ByteArray) (w:World) (hv:DfsAt w (.slice a L.length cap) L) (hn:L.length≤1048576) (hsm:∀ d ∈ L,Sm (d.inn,d.out)) (p:Int × Int) (t t2:Tk) (r:List Tk) (o:Rd) (hok:TksOk (t :: t2 :: r)) (htl:(t :: t2 :: r).length≤40000) (gk:(t.kind != 1)=false)
  (hy2:isSymS ((t :: t2 :: r).drop 1) ⟨#[61]⟩=true) (htk:Calls Tryz.prog 103 #[.string s] (w.alloc (.cells #[.string ⟨#[]⟩,.int .i64 0,.int .i64 0,.slice none 0 0] 28)) (TokPost3 (.ok (t :: t2 :: r)) (w.alloc (.cells #[.string ⟨#[]⟩,.int .i64 0,.int .i64 0,.slice none 0 0] 28))))
  (hterm:∀ (bx:Nat) (w2:World),SxAt (bx+1) bx (t :: t2 :: r) w2 2 [] [] false → Calls Tryz.prog 105 #[.pointer (some ⟨bx,0,none⟩)] w2 (SPost (bx+1) bx (t :: t2 :: r) w2 r [] ⟨false,[],o⟩))
  (hfault:∀ (w5:World) (vn va:Value),DfsAt w5 (.slice a L.length cap) L → NdsAt w5 vn (o.map Prod.fst) → IntsAt w5 va (o.map Prod.snd) → o.length≤40000 → Calls Tryz.prog 106 #[.slice a L.length cap,vn,va] w5 fun e w'=>e=.returned (.tuple #[.int .i64 p.1,.int .i64 p.2])∧Below w5.heap.size w5 w')
  (HE:Hid (defL L s=none)) (gc:(p.2 != 0)=true):Calls Tryz.prog 66 #[.slice a L.length cap,.string s] w (DoPost (defL L s) w):=by
 have hrl:r.length≤40000:=by simp at htl;omega
 go_enter Tryz.func66,Tryz.ntmps66
 go_wp2_with (first|(go_at_call 103;refine htk.mono ?_;rintro e w1 ⟨v1,rfl,ho1,hb1⟩;obtain ⟨b1,o1,c1,he1,hc1,j0,j1,j2⟩:=(tks_at ho1 hok).head;subst he1;have hB1:Below (w.heap.size+1) (w.alloc (.cells #[.string ⟨#[]⟩,.int .i64 0,.int .i64 0,.slice none 0 0] 28)) w1:=hb1.mono (by simp);have zw1:w.heap.size+1≤w1.heap.size:=(by have:=hB1.size;simpa using this))|(go_at_call 104;refine (sxTake_yes _ _ _ 1 _ _ _ _ _ (sx_start ho1 hok (by simp) htl) hy2).mono ?_;rintro e w2 ⟨rfl,h2,hx2⟩;have hB2:Below (w.heap.size+1) (w.alloc (.cells #[.string ⟨#[]⟩,.int .i64 0,.int .i64 0,.slice none 0 0] 28)) w2:=hB1.trans (((Below.refl _ _).alloc zw1 _).trans (below_of_exc hx2 zw1 (by simp;omega)));obtain ⟨bx,hbx⟩:∃ bx,bx=w1.heap.size:=⟨_,rfl⟩;have jj:w2.cell? ⟨b1,o1+1,none⟩=some (.string t.text):=(hx2.cell.1 b1 (o1+1) (by have:=cell_lt j1;simp;omega) (by have:=cell_lt j1;omega)).trans (alloc_keep j1 _);have hb1x:b1<bx:=(by have:=cell_lt j1;omega);rw [← hbx] at h2 zw1 ⊢;clear hbx;obtain ⟨_,k4,_,_,s4⟩:=h2.cells)|(go_at_call 105;refine (hterm bx _ h2).mono ?_;rintro e w3 ⟨⟨nx3,nodes3,ats3,h3,h3d,h3n,_,hv3_sum⟩,hF3,_,rfl⟩;obtain ⟨k1,k4',_,_,s4'⟩:=h3.cells;have hB3:=hB2.trans (below_of_fr hF3 (B:=w.heap.size+1) (by omega) (by omega));obtain ⟨r0,r1,r2,r3,rf,hz1,hbw1⟩:=res4 hB3;obtain ⟨rfl,rfl⟩:=h3n (by first|rfl|trivial);have hge3:¬ ((nx3:Int)<(r.length:Int)+1+1):=(by have h9:=congrArg List.length h3d;simp at h9;omega);obtain ⟨vt3,vn3,va3,hv3⟩:=id h3;obtain ⟨an3,cn3,rfl⟩:=hv3.on.slice;obtain ⟨aa3,ca3,rfl⟩:=owns_shape hv3.oa;have k2:=hv3.c2;have k3:=hv3.c3;have hol:o.length≤40000:=(by have:=hv3_sum;simp at this;omega);have jj3:=(hF3.cell (b:=b1) (o:=o1+1) (by omega) (by omega)).trans jj))
 have zb1:=cell_lt jj3
 have hWB:w.heap.size+1≤w3.heap.size:=by omega
 refine region_acts (C:=Exc (NoT) _) 3 [0,1,2,3,4,5,6,7,8,9,10,11] (by kernel_rfl) (by kernel_rfl) (Exc.grows _ _) (Exc.refl _ _) ?_
 iterate 10 (apply x_st rfl rfl rfl;(focus intro u hc' hf';go_simp <;> rfl);intro K hK;go_simp;apply hK;clear hK K)
 refine x_make rfl rfl rfl (Exc.grows _ _) (Exc.refl _ _) (fun b=>.pointer (some ⟨b,0,none⟩)) (fun K hK=>?_)
 apply Exists.intro
 refine ⟨fun w' hw'=>?_,fun bb w5 hw5 hb5 hbo hNb hnb=>?_⟩
 ·obtain ⟨hc',hf'⟩:=hw'.cell
  try simp only [World.size_drew] at hc' hf'
  go_simp
  rfl
 go_simp
 refine hK _ _ _ ?_
 clear hK K
 refine x_do rfl rfl rfl (Exc.grows _ _) hw5 (fun K hK=>?_)
 intro w6 hw6 hb6
 obtain ⟨m0,m1,m2⟩:=made_cell ((hb6.block bb (made_cell hbo).2.2).trans hbo)
 refine ⟨(((w6.setCell ⟨bb,0,none⟩ (.string t.text)).setCell ⟨bb,1,none⟩ (.int .i64 0)).setCell ⟨bb,2,none⟩ (.int .i64 0)).setCell ⟨bb,3,none⟩ (.slice an3 (o.map Prod.fst).length cn3),?_,⟨exc_set (exc_set (exc_set (exc_set hw6 (.inl hNb) _) (.inl hNb) _) (.inl hNb) _) (.inl hNb) _,by simp,fun j _ hj _=>by rw [Below.heap_setCell _ _ _ _ (fun h=>hj (by simp [h])),Below.heap_setCell _ _ _ _ (fun h=>hj (by simp [h])),Below.heap_setCell _ _ _ _ (fun h=>hj (by simp [h])),Below.heap_setCell _ _ _ _ (fun h=>hj (by simp [h]))]⟩,?_⟩
 ·go_simp
 go_simp
 refine hK _ _ _ ?_
 clear hK K
 refine x_nil ?_
 have hbb:w3.heap.size≤bb:=by simpa using hNb
 obtain ⟨W4,hW4⟩:∃ W4,W4=(((w6.setCell ⟨bb,0,none⟩ (.string t.text)).setCell ⟨bb,1,none⟩ (.int .i64 0)).setCell ⟨bb,2,none⟩ (.int .i64 0)).setCell ⟨bb,3,none⟩ (.slice an3 (o.map Prod.fst).length cn3):=⟨_,rfl⟩
 try simp only [List.length_map] at hW4
 rw [← hW4]
 have hbW:Below w3.heap.size w3 W4:=by rw [hW4];exact (((((Below.refl _ w3).drew.trans (hw6.toBelow.mono (by simp))).setCell hbb _).setCell hbb _).setCell hbb _).setCell hbb _
 have e0:W4.cell? ⟨bb,0,none⟩=some (.string t.text):=by rw [hW4];go_simp
 have e1:W4.cell? ⟨bb,1,none⟩=some (.int .i64 0):=by rw [hW4];go_simp
 have e2:W4.cell? ⟨bb,2,none⟩=some (.int .i64 0):=by rw [hW4];go_simp
 have e3:W4.cell? ⟨bb,3,none⟩=some (.slice an3 (o.map Prod.fst).length cn3):=by rw [hW4];go_simp
 have ef:∀ j,W4.frozen? ⟨bb,j,none⟩=false:=fun j=>by rw [hW4];simpa using m1 j
 have hv4:=sx_below hv3 hbW
 replace k2:=hv4.c2
 replace k3:=hv4.c3
 have hon:=hv4.on
 have hat4:=hv4.on.at
 simp only [List.length_map] at hat4
 have hit4:=rw_ints hv4.oa
 simp only [List.length_map] at hit4
 have hlib4:DfsAt W4 (.slice a L.length cap) L:=(hv.keep (alloc_below _ _)).keep ((hB3.trans (hbW.mono (by omega))).mono (by simp))
 have s4x:bx<W4.heap.size:=cell_lt k2
 have zbb:bb<W4.heap.size:=cell_lt e0
 have hnlo:∀ j,(Value.slice an3 (o.map Prod.fst).length cn3).ownBlock=some j → ¬ j=bb:=fun j hj e=>by have:=(World.ownsRow.lt hv3.on j hj).2;omega
 clear hW4 hw6 hb6 m0 m1 m2 hw5 hb5 hbo hNb hnb r0 r1 r2 r3 rf hz1 hbw1
 go_wp2_with fail
 have upW:∀ {w':World},Exc NoT W4.drew w' → Below W4.heap.size W4 w':=fun h=>(Below.refl W4.heap.size W4).drew.trans (h.toBelow.mono (by simp))
 refine region_acts (C:=Exc (NoT) _) 2 [0,1,2,3,4,5,6,7,8,9,10,11,12,13,14] (by kernel_rfl) (by kernel_rfl) (Exc.grows _ _) (Exc.refl _ _) ?_
 iterate 9 (apply x_st rfl rfl rfl;(focus intro u hc' hf';go_simp <;> rfl);intro K hK;go_simp;apply hK;clear hK K)
 refine x_call rfl rfl rfl (Exc.grows _ _) (Exc.refl _ _) 106 (fun K hK=>?_);apply Exists.intro;refine ⟨fun w' hw'=>?_,fun w' hw' hbw=>?_⟩;(focus go_simp;rfl);refine (hfault _ _ _ (hlib4.keep (upW hw')) (hat4.keep (upW hw')) (ints_keep (upW hw') hit4) hol).mono ?_;rintro e w6 ⟨rfl,hb6⟩;refine ⟨_,rfl,hb6,fun hx=>?_⟩;go_simp;apply hK;clear hK K
 iterate 5 (apply x_st rfl rfl rfl;(focus intro u hc' hf';go_simp <;> rfl);intro K hK;go_simp;apply hK;clear hK K)
 refine x_nil ?_
 have hbF:=upW hx
 have hB6:=(hB3.trans (hbW.mono (by omega))).trans (hbF.mono (by have:=hbW.size;omega))
 replace e0:=cell_keep hbF e0
 replace e1:=cell_keep hbF e1
 replace e2:=cell_keep hbF e2
 replace e3:=cell_keep hbF e3
 replace ef:=(fun j=>(hbF.frozen (p:=⟨bb,j,none⟩) (by simpa using zbb)).trans (ef j))
 replace zbb:bb<w6.heap.size:=cell_lt e0
 replace hon:=hon.keep hbF
 obtain ⟨r0,r1,r2,r3,rf,hz1,hbw1⟩:=res4 hB6
 clear hx hbF hb6 hw' hbw k1 k2 k3 k4 k4' s4'
 go_wp2
 refine bodyPost_ret (v:=.tuple #[.agg #[.string ⟨#[]⟩,.int .i64 0,.int .i64 0,.slice none 0 0],.bool false]) (by simp [results,Tryz.results66,go_sem,r0,r1,r2,r3,rf,hz1]) rfl ?_
 rw [HE.out]
 refine ⟨.slice none 0 0,rfl,nds_none _ _,?_⟩
 (repeat (first|(with_reducible refine Below.alloc ?_ ?_ _;rotate_left;(first|omega|(simp;done)|(simp;omega)))|(with_reducible refine Below.setCell ?_ ?_ _;rotate_left;(first|exact Nat.le_refl _|(simp;done)|(simp;omega)))|(with_reducible refine Below.drew ?_)));exact hbw1
end Go.Proofs.YtldhpaflmnlcaaaGreatDoor
/-
  The reference's sxReadDef: a word that is no name. Own work.
-/
namespace Go.Proofs.YtldhpaflmnlcaaaGreatDoor
open Go.RowKit
theorem sxRd_noname (a:Option Addr) (cap:Nat) (L:List Df) (s:ByteArray) (w:World) (hv:DfsAt w (.slice a L.length cap) L) (hn:L.length≤1048576) (hsm:∀ d ∈ L,Sm (d.inn,d.out)) (t t2:Tk) (r:List Tk) (o:Rd) (hok:TksOk (t :: t2 :: r)) (htl:(t :: t2 :: r).length≤40000) (gk:(t.kind != 1)=false)
  (hy2:isSymS ((t :: t2 :: r).drop 1) ⟨#[61]⟩=true) (htk:Calls Tryz.prog 103 #[.string s] (w.alloc (.cells #[.string ⟨#[]⟩,.int .i64 0,.int .i64 0,.slice none 0 0] 28)) (TokPost3 (.ok (t :: t2 :: r)) (w.alloc (.cells #[.string ⟨#[]⟩,.int .i64 0,.int .i64 0,.slice none 0 0] 28))))
  (hterm:∀ (bx:Nat) (w2:World),SxAt (bx+1) bx (t :: t2 :: r) w2 2 [] [] false → Calls Tryz.prog 105 #[.pointer (some ⟨bx,0,none⟩)] w2 (SPost (bx+1) bx (t :: t2 :: r) w2 r [] ⟨false,[],o⟩))
  (hfault:∀ (w5:World) (vn va:Value),DfsAt w5 (.slice a L.length cap) L → NdsAt w5 vn (o.map Prod.fst) → IntsAt w5 va (o.map Prod.snd) → o.length≤40000 → Calls Tryz.prog 106 #[.slice a L.length cap,vn,va] w5 fun e w'=>e=.returned (.tuple #[.int .i64 0,.int .i64 0])∧Below w5.heap.size w5 w')
  (hts:t.text.size≤40000) (HN:Hid (nameB t.text=false)) (HE:Hid (defL L s=none)):Calls Tryz.prog 66 #[.slice a L.length cap,.string s] w (DoPost (defL L s) w):=by
 have hrl:r.length≤40000:=by simp at htl;omega
 go_enter Tryz.func66,Tryz.ntmps66
 go_wp2_with (first|(go_at_call 103;refine htk.mono ?_;rintro e w1 ⟨v1,rfl,ho1,hb1⟩;obtain ⟨b1,o1,c1,he1,hc1,j0,j1,j2⟩:=(tks_at ho1 hok).head;subst he1;have hB1:Below (w.heap.size+1) (w.alloc (.cells #[.string ⟨#[]⟩,.int .i64 0,.int .i64 0,.slice none 0 0] 28)) w1:=hb1.mono (by simp);have zw1:w.heap.size+1≤w1.heap.size:=(by have:=hB1.size;simpa using this))|(go_at_call 104;refine (sxTake_yes _ _ _ 1 _ _ _ _ _ (sx_start ho1 hok (by simp) htl) hy2).mono ?_;rintro e w2 ⟨rfl,h2,hx2⟩;have hB2:Below (w.heap.size+1) (w.alloc (.cells #[.string ⟨#[]⟩,.int .i64 0,.int .i64 0,.slice none 0 0] 28)) w2:=hB1.trans (((Below.refl _ _).alloc zw1 _).trans (below_of_exc hx2 zw1 (by simp;omega)));obtain ⟨bx,hbx⟩:∃ bx,bx=w1.heap.size:=⟨_,rfl⟩;have jj:w2.cell? ⟨b1,o1+1,none⟩=some (.string t.text):=(hx2.cell.1 b1 (o1+1) (by have:=cell_lt j1;simp;omega) (by have:=cell_lt j1;omega)).trans (alloc_keep j1 _);have hb1x:b1<bx:=(by have:=cell_lt j1;omega);rw [← hbx] at h2 zw1 ⊢;clear hbx;obtain ⟨_,k4,_,_,s4⟩:=h2.cells)|(go_at_call 105;refine (hterm bx _ h2).mono ?_;rintro e w3 ⟨⟨nx3,nodes3,ats3,h3,h3d,h3n,_,hv3_sum⟩,hF3,_,rfl⟩;obtain ⟨k1,k4',_,_,s4'⟩:=h3.cells;have hB3:=hB2.trans (below_of_fr hF3 (B:=w.heap.size+1) (by omega) (by omega));obtain ⟨r0,r1,r2,r3,rf,hz1,hbw1⟩:=res4 hB3;obtain ⟨rfl,rfl⟩:=h3n (by first|rfl|trivial);have hge3:¬ ((nx3:Int)<(r.length:Int)+1+1):=(by have h9:=congrArg List.length h3d;simp at h9;omega);obtain ⟨vt3,vn3,va3,hv3⟩:=id h3;obtain ⟨an3,cn3,rfl⟩:=hv3.on.slice;obtain ⟨aa3,ca3,rfl⟩:=owns_shape hv3.oa;have k2:=hv3.c2;have k3:=hv3.c3;have hol:o.length≤40000:=(by have:=hv3_sum;simp at this;omega);have jj3:=(hF3.cell (b:=b1) (o:=o1+1) (by omega) (by omega)).trans jj))
 have zb1:=cell_lt jj3
 have hWB:w.heap.size+1≤w3.heap.size:=by omega
 refine region_acts (C:=Exc (NoT) _) 3 [0,1,2,3,4,5,6,7,8,9,10,11] (by kernel_rfl) (by kernel_rfl) (Exc.grows _ _) (Exc.refl _ _) ?_
 iterate 10 (apply x_st rfl rfl rfl;(focus intro u hc' hf';go_simp <;> rfl);intro K hK;go_simp;apply hK;clear hK K)
 refine x_make rfl rfl rfl (Exc.grows _ _) (Exc.refl _ _) (fun b=>.pointer (some ⟨b,0,none⟩)) (fun K hK=>?_)
 apply Exists.intro
 refine ⟨fun w' hw'=>?_,fun bb w5 hw5 hb5 hbo hNb hnb=>?_⟩
 ·obtain ⟨hc',hf'⟩:=hw'.cell
  try simp only [World.size_drew] at hc' hf'
  go_simp
  rfl
 go_simp
 refine hK _ _ _ ?_
 clear hK K
 refine x_do rfl rfl rfl (Exc.grows _ _) hw5 (fun K hK=>?_)
 intro w6 hw6 hb6
 obtain ⟨m0,m1,m2⟩:=made_cell ((hb6.block bb (made_cell hbo).2.2).trans hbo)
 refine ⟨(((w6.setCell ⟨bb,0,none⟩ (.string t.text)).setCell ⟨bb,1,none⟩ (.int .i64 0)).setCell ⟨bb,2,none⟩ (.int .i64 0)).setCell ⟨bb,3,none⟩ (.slice an3 (o.map Prod.fst).length cn3),?_,⟨exc_set (exc_set (exc_set (exc_set hw6 (.inl hNb) _) (.inl hNb) _) (.inl hNb) _) (.inl hNb) _,by simp,fun j _ hj _=>by rw [Below.heap_setCell _ _ _ _ (fun h=>hj (by simp [h])),Below.heap_setCell _ _ _ _ (fun h=>hj (by simp [h])),Below.heap_setCell _ _ _ _ (fun h=>hj (by simp [h])),Below.heap_setCell _ _ _ _ (fun h=>hj (by simp [h]))]⟩,?_⟩
 ·go_simp
 go_simp
 refine hK _ _ _ ?_
 clear hK K
 refine x_nil ?_
 have hbb:w3.heap.size≤bb:=by simpa using hNb
 obtain ⟨W4,hW4⟩:∃ W4,W4=(((w6.setCell ⟨bb,0,none⟩ (.string t.text)).setCell ⟨bb,1,none⟩ (.int .i64 0)).setCell ⟨bb,2,none⟩ (.int .i64 0)).setCell ⟨bb,3,none⟩ (.slice an3 (o.map Prod.fst).length cn3):=⟨_,rfl⟩
 try simp only [List.length_map] at hW4
 rw [← hW4]
 have hbW:Below w3.heap.size w3 W4:=by rw [hW4];exact (((((Below.refl _ w3).drew.trans (hw6.toBelow.mono (by simp))).setCell hbb _).setCell hbb _).setCell hbb _).setCell hbb _
 have e0:W4.cell? ⟨bb,0,none⟩=some (.string t.text):=by rw [hW4];go_simp
 have e1:W4.cell? ⟨bb,1,none⟩=some (.int .i64 0):=by rw [hW4];go_simp
 have e2:W4.cell? ⟨bb,2,none⟩=some (.int .i64 0):=by rw [hW4];go_simp
 have e3:W4.cell? ⟨bb,3,none⟩=some (.slice an3 (o.map Prod.fst).length cn3):=by rw [hW4];go_simp
 have ef:∀ j,W4.frozen? ⟨bb,j,none⟩=false:=fun j=>by rw [hW4];simpa using m1 j
 have hv4:=sx_below hv3 hbW
 replace k2:=hv4.c2
 replace k3:=hv4.c3
 have hon:=hv4.on
 have hat4:=hv4.on.at
 simp only [List.length_map] at hat4
 have hit4:=rw_ints hv4.oa
 simp only [List.length_map] at hit4
 have hlib4:DfsAt W4 (.slice a L.length cap) L:=(hv.keep (alloc_below _ _)).keep ((hB3.trans (hbW.mono (by omega))).mono (by simp))
 have s4x:bx<W4.heap.size:=cell_lt k2
 have zbb:bb<W4.heap.size:=cell_lt e0
 have hnlo:∀ j,(Value.slice an3 (o.map Prod.fst).length cn3).ownBlock=some j → ¬ j=bb:=fun j hj e=>by have:=(World.ownsRow.lt hv3.on j hj).2;omega
 clear hW4 hw6 hb6 m0 m1 m2 hw5 hb5 hbo hNb hnb r0 r1 r2 r3 rf hz1 hbw1
 go_wp2_with fail
 have upW:∀ {w':World},Exc NoT W4.drew w' → Below W4.heap.size W4 w':=fun h=>(Below.refl W4.heap.size W4).drew.trans (h.toBelow.mono (by simp))
 refine region_acts (C:=Exc (NoT) _) 2 [0,1,2,3,4,5,6,7,8,9,10,11,12,13,14] (by kernel_rfl) (by kernel_rfl) (Exc.grows _ _) (Exc.refl _ _) ?_
 iterate 9 (apply x_st rfl rfl rfl;(focus intro u hc' hf';go_simp <;> rfl);intro K hK;go_simp;apply hK;clear hK K)
 refine x_call rfl rfl rfl (Exc.grows _ _) (Exc.refl _ _) 106 (fun K hK=>?_);apply Exists.intro;refine ⟨fun w' hw'=>?_,fun w' hw' hbw=>?_⟩;(focus go_simp;rfl);refine (hfault _ _ _ (hlib4.keep (upW hw')) (hat4.keep (upW hw')) (ints_keep (upW hw') hit4) hol).mono ?_;rintro e w6 ⟨rfl,hb6⟩;refine ⟨_,rfl,hb6,fun hx=>?_⟩;go_simp;apply hK;clear hK K
 iterate 5 (apply x_st rfl rfl rfl;(focus intro u hc' hf';go_simp <;> rfl);intro K hK;go_simp;apply hK;clear hK K)
 refine x_nil ?_
 have hbF:=upW hx
 have hB6:=(hB3.trans (hbW.mono (by omega))).trans (hbF.mono (by have:=hbW.size;omega))
 replace e0:=cell_keep hbF e0
 replace e1:=cell_keep hbF e1
 replace e2:=cell_keep hbF e2
 replace e3:=cell_keep hbF e3
 replace ef:=(fun j=>(hbF.frozen (p:=⟨bb,j,none⟩) (by simpa using zbb)).trans (ef j))
 replace zbb:bb<w6.heap.size:=cell_lt e0
 replace hon:=hon.keep hbF
 obtain ⟨r0,r1,r2,r3,rf,hz1,hbw1⟩:=res4 hB6
 clear hx hbF hb6 hw' hbw k1 k2 k3 k4 k4' s4'
 go_wp2_with (go_at_call 100;refine (lbName_any _ _ (by omega)).mono ?_;rintro e w7 ⟨rfl,hb7⟩;rw [HN.out];obtain ⟨r0,r1,r2,r3,rf,hz1,hbw1⟩:=res4 (hB6.trans (hb7.mono (by have:=hB6.size;simpa using this))))
 refine bodyPost_ret (v:=.tuple #[.agg #[.string ⟨#[]⟩,.int .i64 0,.int .i64 0,.slice none 0 0],.bool false]) (by simp [results,Tryz.results66,go_sem,r0,r1,r2,r3,rf,hz1]) rfl ?_
 rw [HE.out]
 refine ⟨.slice none 0 0,rfl,nds_none _ _,?_⟩
 (repeat (first|(with_reducible refine Below.alloc ?_ ?_ _;rotate_left;(first|omega|(simp;done)|(simp;omega)))|(with_reducible refine Below.setCell ?_ ?_ _;rotate_left;(first|exact Nat.le_refl _|(simp;done)|(simp;omega)))|(with_reducible refine Below.drew ?_)));exact hbw1
end Go.Proofs.YtldhpaflmnlcaaaGreatDoor
/-
  The reference's sxReadDef: a definition. Own work.
-/
namespace Go.Proofs.YtldhpaflmnlcaaaGreatDoor
open Go.RowKit
theorem sxRd_ok (a:Option Addr) (cap:Nat) (L:List Df) (s:ByteArray) (w:World) (hv:DfsAt w (.slice a L.length cap) L) (hn:L.length≤1048576) (hsm:∀ d ∈ L,Sm (d.inn,d.out)) (t t2:Tk) (r:List Tk) (o:Rd) (hok:TksOk (t :: t2 :: r)) (htl:(t :: t2 :: r).length≤40000) (gk:(t.kind != 1)=false)
  (hy2:isSymS ((t :: t2 :: r).drop 1) ⟨#[61]⟩=true) (htk:Calls Tryz.prog 103 #[.string s] (w.alloc (.cells #[.string ⟨#[]⟩,.int .i64 0,.int .i64 0,.slice none 0 0] 28)) (TokPost3 (.ok (t :: t2 :: r)) (w.alloc (.cells #[.string ⟨#[]⟩,.int .i64 0,.int .i64 0,.slice none 0 0] 28))))
  (hterm:∀ (bx:Nat) (w2:World),SxAt (bx+1) bx (t :: t2 :: r) w2 2 [] [] false → Calls Tryz.prog 105 #[.pointer (some ⟨bx,0,none⟩)] w2 (SPost (bx+1) bx (t :: t2 :: r) w2 r [] ⟨false,[],o⟩))
  (hfault:∀ (w5:World) (vn va:Value),DfsAt w5 (.slice a L.length cap) L → NdsAt w5 vn (o.map Prod.fst) → IntsAt w5 va (o.map Prod.snd) → o.length≤40000 → Calls Tryz.prog 106 #[.slice a L.length cap,vn,va] w5 fun e w'=>e=.returned (.tuple #[.int .i64 0,.int .i64 0])∧Below w5.heap.size w5 w')
  (hts:t.text.size≤40000) (HN:Hid (nameB t.text=true)) (x:W2) (hnok:NdsOk (o.map Prod.fst)) (HX:Hid (typedL (leafIn L) (o.map Prod.fst)=some x)) (HF:Hid (findFrom t.text L 0=-1)) (HE:Hid (defL L s=some ⟨t.text,x.1,x.2,o.map Prod.fst⟩)):Calls Tryz.prog 66 #[.slice a L.length cap,.string s] w (DoPost (defL L s) w):=by
 have hrl:r.length≤40000:=by simp at htl;omega
 go_enter Tryz.func66,Tryz.ntmps66
 go_wp2_with (first|(go_at_call 103;refine htk.mono ?_;rintro e w1 ⟨v1,rfl,ho1,hb1⟩;obtain ⟨b1,o1,c1,he1,hc1,j0,j1,j2⟩:=(tks_at ho1 hok).head;subst he1;have hB1:Below (w.heap.size+1) (w.alloc (.cells #[.string ⟨#[]⟩,.int .i64 0,.int .i64 0,.slice none 0 0] 28)) w1:=hb1.mono (by simp);have zw1:w.heap.size+1≤w1.heap.size:=(by have:=hB1.size;simpa using this))|(go_at_call 104;refine (sxTake_yes _ _ _ 1 _ _ _ _ _ (sx_start ho1 hok (by simp) htl) hy2).mono ?_;rintro e w2 ⟨rfl,h2,hx2⟩;have hB2:Below (w.heap.size+1) (w.alloc (.cells #[.string ⟨#[]⟩,.int .i64 0,.int .i64 0,.slice none 0 0] 28)) w2:=hB1.trans (((Below.refl _ _).alloc zw1 _).trans (below_of_exc hx2 zw1 (by simp;omega)));obtain ⟨bx,hbx⟩:∃ bx,bx=w1.heap.size:=⟨_,rfl⟩;have jj:w2.cell? ⟨b1,o1+1,none⟩=some (.string t.text):=(hx2.cell.1 b1 (o1+1) (by have:=cell_lt j1;simp;omega) (by have:=cell_lt j1;omega)).trans (alloc_keep j1 _);have hb1x:b1<bx:=(by have:=cell_lt j1;omega);rw [← hbx] at h2 zw1 ⊢;clear hbx;obtain ⟨_,k4,_,_,s4⟩:=h2.cells)|(go_at_call 105;refine (hterm bx _ h2).mono ?_;rintro e w3 ⟨⟨nx3,nodes3,ats3,h3,h3d,h3n,_,hv3_sum⟩,hF3,_,rfl⟩;obtain ⟨k1,k4',_,_,s4'⟩:=h3.cells;have hB3:=hB2.trans (below_of_fr hF3 (B:=w.heap.size+1) (by omega) (by omega));obtain ⟨r0,r1,r2,r3,rf,hz1,hbw1⟩:=res4 hB3;obtain ⟨rfl,rfl⟩:=h3n (by first|rfl|trivial);have hge3:¬ ((nx3:Int)<(r.length:Int)+1+1):=(by have h9:=congrArg List.length h3d;simp at h9;omega);obtain ⟨vt3,vn3,va3,hv3⟩:=id h3;obtain ⟨an3,cn3,rfl⟩:=hv3.on.slice;obtain ⟨aa3,ca3,rfl⟩:=owns_shape hv3.oa;have k2:=hv3.c2;have k3:=hv3.c3;have hol:o.length≤40000:=(by have:=hv3_sum;simp at this;omega);have jj3:=(hF3.cell (b:=b1) (o:=o1+1) (by omega) (by omega)).trans jj))
 have zb1:=cell_lt jj3
 have hWB:w.heap.size+1≤w3.heap.size:=by omega
 refine region_acts (C:=Exc (NoT) _) 3 [0,1,2,3,4,5,6,7,8,9,10,11] (by kernel_rfl) (by kernel_rfl) (Exc.grows _ _) (Exc.refl _ _) ?_
 iterate 10 (apply x_st rfl rfl rfl;(focus intro u hc' hf';go_simp <;> rfl);intro K hK;go_simp;apply hK;clear hK K)
 refine x_make rfl rfl rfl (Exc.grows _ _) (Exc.refl _ _) (fun b=>.pointer (some ⟨b,0,none⟩)) (fun K hK=>?_)
 apply Exists.intro
 refine ⟨fun w' hw'=>?_,fun bb w5 hw5 hb5 hbo hNb hnb=>?_⟩
 ·obtain ⟨hc',hf'⟩:=hw'.cell
  try simp only [World.size_drew] at hc' hf'
  go_simp
  rfl
 go_simp
 refine hK _ _ _ ?_
 clear hK K
 refine x_do rfl rfl rfl (Exc.grows _ _) hw5 (fun K hK=>?_)
 intro w6 hw6 hb6
 obtain ⟨m0,m1,m2⟩:=made_cell ((hb6.block bb (made_cell hbo).2.2).trans hbo)
 refine ⟨(((w6.setCell ⟨bb,0,none⟩ (.string t.text)).setCell ⟨bb,1,none⟩ (.int .i64 0)).setCell ⟨bb,2,none⟩ (.int .i64 0)).setCell ⟨bb,3,none⟩ (.slice an3 (o.map Prod.fst).length cn3),?_,⟨exc_set (exc_set (exc_set (exc_set hw6 (.inl hNb) _) (.inl hNb) _) (.inl hNb) _) (.inl hNb) _,by simp,fun j _ hj _=>by rw [Below.heap_setCell _ _ _ _ (fun h=>hj (by simp [h])),Below.heap_setCell _ _ _ _ (fun h=>hj (by simp [h])),Below.heap_setCell _ _ _ _ (fun h=>hj (by simp [h])),Below.heap_setCell _ _ _ _ (fun h=>hj (by simp [h]))]⟩,?_⟩
 ·go_simp
 go_simp
 refine hK _ _ _ ?_
 clear hK K
 refine x_nil ?_
 have hbb:w3.heap.size≤bb:=by simpa using hNb
 obtain ⟨W4,hW4⟩:∃ W4,W4=(((w6.setCell ⟨bb,0,none⟩ (.string t.text)).setCell ⟨bb,1,none⟩ (.int .i64 0)).setCell ⟨bb,2,none⟩ (.int .i64 0)).setCell ⟨bb,3,none⟩ (.slice an3 (o.map Prod.fst).length cn3):=⟨_,rfl⟩
 try simp only [List.length_map] at hW4
 rw [← hW4]
 have hbW:Below w3.heap.size w3 W4:=by rw [hW4];exact (((((Below.refl _ w3).drew.trans (hw6.toBelow.mono (by simp))).setCell hbb _).setCell hbb _).setCell hbb _).setCell hbb _
 have e0:W4.cell? ⟨bb,0,none⟩=some (.string t.text):=by rw [hW4];go_simp
 have e1:W4.cell? ⟨bb,1,none⟩=some (.int .i64 0):=by rw [hW4];go_simp
 have e2:W4.cell? ⟨bb,2,none⟩=some (.int .i64 0):=by rw [hW4];go_simp
 have e3:W4.cell? ⟨bb,3,none⟩=some (.slice an3 (o.map Prod.fst).length cn3):=by rw [hW4];go_simp
 have ef:∀ j,W4.frozen? ⟨bb,j,none⟩=false:=fun j=>by rw [hW4];simpa using m1 j
 have hv4:=sx_below hv3 hbW
 replace k2:=hv4.c2
 replace k3:=hv4.c3
 have hon:=hv4.on
 have hat4:=hv4.on.at
 simp only [List.length_map] at hat4
 have hit4:=rw_ints hv4.oa
 simp only [List.length_map] at hit4
 have hlib4:DfsAt W4 (.slice a L.length cap) L:=(hv.keep (alloc_below _ _)).keep ((hB3.trans (hbW.mono (by omega))).mono (by simp))
 have s4x:bx<W4.heap.size:=cell_lt k2
 have zbb:bb<W4.heap.size:=cell_lt e0
 have hnlo:∀ j,(Value.slice an3 (o.map Prod.fst).length cn3).ownBlock=some j → ¬ j=bb:=fun j hj e=>by have:=(World.ownsRow.lt hv3.on j hj).2;omega
 clear hW4 hw6 hb6 m0 m1 m2 hw5 hb5 hbo hNb hnb r0 r1 r2 r3 rf hz1 hbw1
 go_wp2_with fail
 have upW:∀ {w':World},Exc NoT W4.drew w' → Below W4.heap.size W4 w':=fun h=>(Below.refl W4.heap.size W4).drew.trans (h.toBelow.mono (by simp))
 refine region_acts (C:=Exc (NoT) _) 2 [0,1,2,3,4,5,6,7,8,9,10,11,12,13,14] (by kernel_rfl) (by kernel_rfl) (Exc.grows _ _) (Exc.refl _ _) ?_
 iterate 9 (apply x_st rfl rfl rfl;(focus intro u hc' hf';go_simp <;> rfl);intro K hK;go_simp;apply hK;clear hK K)
 refine x_call rfl rfl rfl (Exc.grows _ _) (Exc.refl _ _) 106 (fun K hK=>?_);apply Exists.intro;refine ⟨fun w' hw'=>?_,fun w' hw' hbw=>?_⟩;(focus go_simp;rfl);refine (hfault _ _ _ (hlib4.keep (upW hw')) (hat4.keep (upW hw')) (ints_keep (upW hw') hit4) hol).mono ?_;rintro e w6 ⟨rfl,hb6⟩;refine ⟨_,rfl,hb6,fun hx=>?_⟩;go_simp;apply hK;clear hK K
 iterate 5 (apply x_st rfl rfl rfl;(focus intro u hc' hf';go_simp <;> rfl);intro K hK;go_simp;apply hK;clear hK K)
 refine x_nil ?_
 have hbF:=upW hx
 have hB6:=(hB3.trans (hbW.mono (by omega))).trans (hbF.mono (by have:=hbW.size;omega))
 replace e0:=cell_keep hbF e0
 replace e1:=cell_keep hbF e1
 replace e2:=cell_keep hbF e2
 replace e3:=cell_keep hbF e3
 replace ef:=(fun j=>(hbF.frozen (p:=⟨bb,j,none⟩) (by simpa using zbb)).trans (ef j))
 replace zbb:bb<w6.heap.size:=cell_lt e0
 replace hon:=hon.keep hbF
 obtain ⟨r0,r1,r2,r3,rf,hz1,hbw1⟩:=res4 hB6
 clear hx hbF hb6 hw' hbw k1 k2 k3 k4 k4' s4'
 go_wp2_with (first|(go_at_call 100;refine (lbName_any _ _ (by omega)).mono ?_;rintro e w7 ⟨rfl,hb7⟩;rw [HN.out];have hB7:=hB6.trans (hb7.mono (by have:=hB6.size;simpa using this));replace e0:=cell_keep hb7 e0;replace e1:=cell_keep hb7 e1;replace e2:=cell_keep hb7 e2;replace e3:=cell_keep hb7 e3;replace ef:=(fun j=>(hb7.frozen (p:=⟨bb,j,none⟩) (by simpa using zbb)).trans (ef j));replace zbb:bb<w7.heap.size:=cell_lt e0;replace hon:=hon.keep hb7)|(go_at_call 101;refine (lbFind_any _ L _ _ ((hv.keep (alloc_below _ _)).keep (hB7.mono (by simp))) hn).mono ?_;rintro e w8 ⟨rfl,hb8⟩;rw [HF.out];have hB8:=hB7.trans (hb8.mono (by have:=hB7.size;simpa using this));replace e0:=cell_keep hb8 e0;replace e1:=cell_keep hb8 e1;replace e2:=cell_keep hb8 e2;replace e3:=cell_keep hb8 e3;replace ef:=(fun j=>(hb8.frozen (p:=⟨bb,j,none⟩) (by simpa using zbb)).trans (ef j));replace zbb:bb<w8.heap.size:=cell_lt e0;replace hon:=hon.keep hb8)|(go_at_call 102;have honat:=hon.at;simp only [List.length_map] at honat;refine (lbType_some _ _ L _ x _ ((hv.keep (alloc_below _ _)).keep (hB8.mono (by simp))) hn hsm honat hnok HX.out).mono ?_;rintro e w9 ⟨rfl,hb9⟩;have hB9:=hB8.trans (hb9.mono (by have:=hB8.size;simpa using this));replace e0:=cell_keep hb9 e0;replace e1:=cell_keep hb9 e1;replace e2:=cell_keep hb9 e2;replace e3:=cell_keep hb9 e3;replace ef:=(fun j=>(hb9.frozen (p:=⟨bb,j,none⟩) (by simpa using zbb)).trans (ef j));replace zbb:bb<w9.heap.size:=cell_lt e0;replace hon:=hon.keep hb9;have ef1:=ef 1;have ef2:=ef 2;obtain ⟨r0,r1,r2,r3,rf,hz1,hbw1⟩:=res4 hB9;have nrd:¬ bb=w.heap.size:=(by omega)))
 refine bodyPost_ret (v:=.tuple #[.agg #[.string t.text,.int .i64 x.1,.int .i64 x.2,.slice an3 (o.map Prod.fst).length cn3],.bool true]) (by simp [results,Tryz.results66,go_sem,r0,r1,r2,r3,rf,hz1]) rfl ?_
 rw [HE.out]
 refine ⟨_,rfl,?_,?_⟩
 ·have h1:(Value.slice an3 (o.map Prod.fst).length cn3).ownBlock ≠ some bb:=fun e=>hnlo bb e rfl
  have h2:(Value.slice an3 (o.map Prod.fst).length cn3).ownBlock ≠ some w.heap.size:=fun e=>by have:=(World.ownsRow.lt hon _ e).1;omega
  exact NdsOwn.mono (B:=bx+1) (by omega) (owns_other (owns_other (owns_other (owns_other (owns_other (owns_other hon _ _ h1) _ _ h1) _ _ h2) _ _ h2) _ _ h2) _ _ h2)
 ·(repeat (first|(with_reducible refine Below.alloc ?_ ?_ _;rotate_left;(first|omega|(simp;done)|(simp;omega)))|(with_reducible refine Below.setCell ?_ ?_ _;rotate_left;(first|exact Nat.le_refl _|(simp;done)|(simp;omega)))|(with_reducible refine Below.drew ?_)));exact hbw1
end Go.Proofs.YtldhpaflmnlcaaaGreatDoor
/-
  The reference's sxReadDef: a name that is taken. Own work.
-/
namespace Go.Proofs.YtldhpaflmnlcaaaGreatDoor
open Go.RowKit
theorem sxRd_taken (a:Option Addr) (cap:Nat) (L:List Df) (s:ByteArray) (w:World) (hv:DfsAt w (.slice a L.length cap) L) (hn:L.length≤1048576) (hsm:∀ d ∈ L,Sm (d.inn,d.out)) (t t2:Tk) (r:List Tk) (o:Rd) (hok:TksOk (t :: t2 :: r)) (htl:(t :: t2 :: r).length≤40000) (gk:(t.kind != 1)=false)
  (hy2:isSymS ((t :: t2 :: r).drop 1) ⟨#[61]⟩=true) (htk:Calls Tryz.prog 103 #[.string s] (w.alloc (.cells #[.string ⟨#[]⟩,.int .i64 0,.int .i64 0,.slice none 0 0] 28)) (TokPost3 (.ok (t :: t2 :: r)) (w.alloc (.cells #[.string ⟨#[]⟩,.int .i64 0,.int .i64 0,.slice none 0 0] 28))))
  (hterm:∀ (bx:Nat) (w2:World),SxAt (bx+1) bx (t :: t2 :: r) w2 2 [] [] false → Calls Tryz.prog 105 #[.pointer (some ⟨bx,0,none⟩)] w2 (SPost (bx+1) bx (t :: t2 :: r) w2 r [] ⟨false,[],o⟩))
  (hfault:∀ (w5:World) (vn va:Value),DfsAt w5 (.slice a L.length cap) L → NdsAt w5 vn (o.map Prod.fst) → IntsAt w5 va (o.map Prod.snd) → o.length≤40000 → Calls Tryz.prog 106 #[.slice a L.length cap,vn,va] w5 fun e w'=>e=.returned (.tuple #[.int .i64 0,.int .i64 0])∧Below w5.heap.size w5 w')
  (hts:t.text.size≤40000) (HN:Hid (nameB t.text=true)) (i:Nat) (hi0:(0:Int)≤(i:Int)) (HF:Hid (findFrom t.text L 0=(i:Int))) (HE:Hid (defL L s=none)):Calls Tryz.prog 66 #[.slice a L.length cap,.string s] w (DoPost (defL L s) w):=by
 have hrl:r.length≤40000:=by simp at htl;omega
 go_enter Tryz.func66,Tryz.ntmps66
 go_wp2_with (first|(go_at_call 103;refine htk.mono ?_;rintro e w1 ⟨v1,rfl,ho1,hb1⟩;obtain ⟨b1,o1,c1,he1,hc1,j0,j1,j2⟩:=(tks_at ho1 hok).head;subst he1;have hB1:Below (w.heap.size+1) (w.alloc (.cells #[.string ⟨#[]⟩,.int .i64 0,.int .i64 0,.slice none 0 0] 28)) w1:=hb1.mono (by simp);have zw1:w.heap.size+1≤w1.heap.size:=(by have:=hB1.size;simpa using this))|(go_at_call 104;refine (sxTake_yes _ _ _ 1 _ _ _ _ _ (sx_start ho1 hok (by simp) htl) hy2).mono ?_;rintro e w2 ⟨rfl,h2,hx2⟩;have hB2:Below (w.heap.size+1) (w.alloc (.cells #[.string ⟨#[]⟩,.int .i64 0,.int .i64 0,.slice none 0 0] 28)) w2:=hB1.trans (((Below.refl _ _).alloc zw1 _).trans (below_of_exc hx2 zw1 (by simp;omega)));obtain ⟨bx,hbx⟩:∃ bx,bx=w1.heap.size:=⟨_,rfl⟩;have jj:w2.cell? ⟨b1,o1+1,none⟩=some (.string t.text):=(hx2.cell.1 b1 (o1+1) (by have:=cell_lt j1;simp;omega) (by have:=cell_lt j1;omega)).trans (alloc_keep j1 _);have hb1x:b1<bx:=(by have:=cell_lt j1;omega);rw [← hbx] at h2 zw1 ⊢;clear hbx;obtain ⟨_,k4,_,_,s4⟩:=h2.cells)|(go_at_call 105;refine (hterm bx _ h2).mono ?_;rintro e w3 ⟨⟨nx3,nodes3,ats3,h3,h3d,h3n,_,hv3_sum⟩,hF3,_,rfl⟩;obtain ⟨k1,k4',_,_,s4'⟩:=h3.cells;have hB3:=hB2.trans (below_of_fr hF3 (B:=w.heap.size+1) (by omega) (by omega));obtain ⟨r0,r1,r2,r3,rf,hz1,hbw1⟩:=res4 hB3;obtain ⟨rfl,rfl⟩:=h3n (by first|rfl|trivial);have hge3:¬ ((nx3:Int)<(r.length:Int)+1+1):=(by have h9:=congrArg List.length h3d;simp at h9;omega);obtain ⟨vt3,vn3,va3,hv3⟩:=id h3;obtain ⟨an3,cn3,rfl⟩:=hv3.on.slice;obtain ⟨aa3,ca3,rfl⟩:=owns_shape hv3.oa;have k2:=hv3.c2;have k3:=hv3.c3;have hol:o.length≤40000:=(by have:=hv3_sum;simp at this;omega);have jj3:=(hF3.cell (b:=b1) (o:=o1+1) (by omega) (by omega)).trans jj))
 have zb1:=cell_lt jj3
 have hWB:w.heap.size+1≤w3.heap.size:=by omega
 refine region_acts (C:=Exc (NoT) _) 3 [0,1,2,3,4,5,6,7,8,9,10,11] (by kernel_rfl) (by kernel_rfl) (Exc.grows _ _) (Exc.refl _ _) ?_
 iterate 10 (apply x_st rfl rfl rfl;(focus intro u hc' hf';go_simp <;> rfl);intro K hK;go_simp;apply hK;clear hK K)
 refine x_make rfl rfl rfl (Exc.grows _ _) (Exc.refl _ _) (fun b=>.pointer (some ⟨b,0,none⟩)) (fun K hK=>?_)
 apply Exists.intro
 refine ⟨fun w' hw'=>?_,fun bb w5 hw5 hb5 hbo hNb hnb=>?_⟩
 ·obtain ⟨hc',hf'⟩:=hw'.cell
  try simp only [World.size_drew] at hc' hf'
  go_simp
  rfl
 go_simp
 refine hK _ _ _ ?_
 clear hK K
 refine x_do rfl rfl rfl (Exc.grows _ _) hw5 (fun K hK=>?_)
 intro w6 hw6 hb6
 obtain ⟨m0,m1,m2⟩:=made_cell ((hb6.block bb (made_cell hbo).2.2).trans hbo)
 refine ⟨(((w6.setCell ⟨bb,0,none⟩ (.string t.text)).setCell ⟨bb,1,none⟩ (.int .i64 0)).setCell ⟨bb,2,none⟩ (.int .i64 0)).setCell ⟨bb,3,none⟩ (.slice an3 (o.map Prod.fst).length cn3),?_,⟨exc_set (exc_set (exc_set (exc_set hw6 (.inl hNb) _) (.inl hNb) _) (.inl hNb) _) (.inl hNb) _,by simp,fun j _ hj _=>by rw [Below.heap_setCell _ _ _ _ (fun h=>hj (by simp [h])),Below.heap_setCell _ _ _ _ (fun h=>hj (by simp [h])),Below.heap_setCell _ _ _ _ (fun h=>hj (by simp [h])),Below.heap_setCell _ _ _ _ (fun h=>hj (by simp [h]))]⟩,?_⟩
 ·go_simp
 go_simp
 refine hK _ _ _ ?_
 clear hK K
 refine x_nil ?_
 have hbb:w3.heap.size≤bb:=by simpa using hNb
 obtain ⟨W4,hW4⟩:∃ W4,W4=(((w6.setCell ⟨bb,0,none⟩ (.string t.text)).setCell ⟨bb,1,none⟩ (.int .i64 0)).setCell ⟨bb,2,none⟩ (.int .i64 0)).setCell ⟨bb,3,none⟩ (.slice an3 (o.map Prod.fst).length cn3):=⟨_,rfl⟩
 try simp only [List.length_map] at hW4
 rw [← hW4]
 have hbW:Below w3.heap.size w3 W4:=by rw [hW4];exact (((((Below.refl _ w3).drew.trans (hw6.toBelow.mono (by simp))).setCell hbb _).setCell hbb _).setCell hbb _).setCell hbb _
 have e0:W4.cell? ⟨bb,0,none⟩=some (.string t.text):=by rw [hW4];go_simp
 have e1:W4.cell? ⟨bb,1,none⟩=some (.int .i64 0):=by rw [hW4];go_simp
 have e2:W4.cell? ⟨bb,2,none⟩=some (.int .i64 0):=by rw [hW4];go_simp
 have e3:W4.cell? ⟨bb,3,none⟩=some (.slice an3 (o.map Prod.fst).length cn3):=by rw [hW4];go_simp
 have ef:∀ j,W4.frozen? ⟨bb,j,none⟩=false:=fun j=>by rw [hW4];simpa using m1 j
 have hv4:=sx_below hv3 hbW
 replace k2:=hv4.c2
 replace k3:=hv4.c3
 have hon:=hv4.on
 have hat4:=hv4.on.at
 simp only [List.length_map] at hat4
 have hit4:=rw_ints hv4.oa
 simp only [List.length_map] at hit4
 have hlib4:DfsAt W4 (.slice a L.length cap) L:=(hv.keep (alloc_below _ _)).keep ((hB3.trans (hbW.mono (by omega))).mono (by simp))
 have s4x:bx<W4.heap.size:=cell_lt k2
 have zbb:bb<W4.heap.size:=cell_lt e0
 have hnlo:∀ j,(Value.slice an3 (o.map Prod.fst).length cn3).ownBlock=some j → ¬ j=bb:=fun j hj e=>by have:=(World.ownsRow.lt hv3.on j hj).2;omega
 clear hW4 hw6 hb6 m0 m1 m2 hw5 hb5 hbo hNb hnb r0 r1 r2 r3 rf hz1 hbw1
 go_wp2_with fail
 have upW:∀ {w':World},Exc NoT W4.drew w' → Below W4.heap.size W4 w':=fun h=>(Below.refl W4.heap.size W4).drew.trans (h.toBelow.mono (by simp))
 refine region_acts (C:=Exc (NoT) _) 2 [0,1,2,3,4,5,6,7,8,9,10,11,12,13,14] (by kernel_rfl) (by kernel_rfl) (Exc.grows _ _) (Exc.refl _ _) ?_
 iterate 9 (apply x_st rfl rfl rfl;(focus intro u hc' hf';go_simp <;> rfl);intro K hK;go_simp;apply hK;clear hK K)
 refine x_call rfl rfl rfl (Exc.grows _ _) (Exc.refl _ _) 106 (fun K hK=>?_);apply Exists.intro;refine ⟨fun w' hw'=>?_,fun w' hw' hbw=>?_⟩;(focus go_simp;rfl);refine (hfault _ _ _ (hlib4.keep (upW hw')) (hat4.keep (upW hw')) (ints_keep (upW hw') hit4) hol).mono ?_;rintro e w6 ⟨rfl,hb6⟩;refine ⟨_,rfl,hb6,fun hx=>?_⟩;go_simp;apply hK;clear hK K
 iterate 5 (apply x_st rfl rfl rfl;(focus intro u hc' hf';go_simp <;> rfl);intro K hK;go_simp;apply hK;clear hK K)
 refine x_nil ?_
 have hbF:=upW hx
 have hB6:=(hB3.trans (hbW.mono (by omega))).trans (hbF.mono (by have:=hbW.size;omega))
 replace e0:=cell_keep hbF e0
 replace e1:=cell_keep hbF e1
 replace e2:=cell_keep hbF e2
 replace e3:=cell_keep hbF e3
 replace ef:=(fun j=>(hbF.frozen (p:=⟨bb,j,none⟩) (by simpa using zbb)).trans (ef j))
 replace zbb:bb<w6.heap.size:=cell_lt e0
 replace hon:=hon.keep hbF
 obtain ⟨r0,r1,r2,r3,rf,hz1,hbw1⟩:=res4 hB6
 clear hx hbF hb6 hw' hbw k1 k2 k3 k4 k4' s4'
 go_wp2_with (first|(go_at_call 100;refine (lbName_any _ _ (by omega)).mono ?_;rintro e w7 ⟨rfl,hb7⟩;rw [HN.out];have hB7:=hB6.trans (hb7.mono (by have:=hB6.size;simpa using this));replace e0:=cell_keep hb7 e0;replace zbb:bb<w7.heap.size:=cell_lt e0)|(go_at_call 101;refine (lbFind_any _ L _ _ ((hv.keep (alloc_below _ _)).keep (hB7.mono (by simp))) hn).mono ?_;rintro e w8 ⟨rfl,hb8⟩;rw [HF.out];obtain ⟨r0,r1,r2,r3,rf,hz1,hbw1⟩:=res4 (hB7.trans (hb8.mono (by have:=hB7.size;simpa using this)))))
 refine bodyPost_ret (v:=.tuple #[.agg #[.string ⟨#[]⟩,.int .i64 0,.int .i64 0,.slice none 0 0],.bool false]) (by simp [results,Tryz.results66,go_sem,r0,r1,r2,r3,rf,hz1]) rfl ?_
 rw [HE.out]
 refine ⟨.slice none 0 0,rfl,nds_none _ _,?_⟩
 (repeat (first|(with_reducible refine Below.alloc ?_ ?_ _;rotate_left;(first|omega|(simp;done)|(simp;omega)))|(with_reducible refine Below.setCell ?_ ?_ _;rotate_left;(first|exact Nat.le_refl _|(simp;done)|(simp;omega)))|(with_reducible refine Below.drew ?_)));exact hbw1
end Go.Proofs.YtldhpaflmnlcaaaGreatDoor
/-
  The reference's sxReadDef: all cases; ParseDef. Own work.
-/
namespace Go.Proofs.YtldhpaflmnlcaaaGreatDoor
open Go.RowKit
theorem sxReadDef_any (v:Value) (L:List Df) (s:ByteArray) (w:World) (hv:DfsAt w v L) (hg:good L=true) (hs:s.size≤4194304) :
  Calls Tryz.prog 66 #[v,.string s] w (DoPost (defL L s) w):=by
 obtain ⟨hLs,hn⟩:=good_ok hg
 have hgg:goodGo [] L=true:=by simp only [good,Bool.and_eq_true] at hg;exact hg.2
 have hsm:=good_sm hgg
 obtain ⟨a,cap,rfl⟩:∃ a cap,v=.slice a L.length cap:=by obtain ⟨a,cap,rfl,_⟩:=hv;exact ⟨a,cap,rfl⟩
 have htk:=sxTokens_any s (w.alloc (.cells #[.string ⟨#[]⟩,.int .i64 0,.int .i64 0,.slice none 0 0] 28)) hs
 cases ht:tokL s with
 | error p =>
  rw [ht] at htk
  have HE:Hid (defL L s=none):=defL_none (pDef_err ht)
  have gc:(p.2 != 0)=true:=by simpa using tokL_code ht
  clear ht
  go_enter Tryz.func66,Tryz.ntmps66
  go_wp2_with (go_at_call 103;refine htk.mono ?_;rintro e w1 ⟨rfl,hb1⟩;obtain ⟨r0,r1,r2,r3,rf,hz1,hbw1⟩:=res4 (hb1.mono (by simp)))
  refine bodyPost_ret (v:=.tuple #[.agg #[.string ⟨#[]⟩,.int .i64 0,.int .i64 0,.slice none 0 0],.bool false]) (by simp [results,Tryz.results66,go_sem,r0,r1,r2,r3,rf,hz1]) rfl ?_
  rw [HE.out]
  refine ⟨.slice none 0 0,rfl,nds_none _ _,?_⟩
  (repeat (first|(with_reducible refine Below.alloc ?_ ?_ _;rotate_left;(first|omega|(simp;done)|(simp;omega)))|(with_reducible refine Below.setCell ?_ ?_ _;rotate_left;(first|exact Nat.le_refl _|(simp;done)|(simp;omega)))|(with_reducible refine Below.drew ?_)));exact hbw1
 | ok ts =>
  rw [ht] at htk
  obtain ⟨hok,htl,_⟩:=tokL_ok ht
  by_cases hw:∃ t r,ts=t :: r∧t.kind=1
  ·obtain ⟨t,r,rfl,hk⟩:=hw
   have gk:(t.kind != 1)=false:=by simp [hk]
   by_cases hy:isSymS r ⟨#[61]⟩=true
   ·cases r with
    | nil=>simp [isSymS] at hy
    | cons t2 r =>
    have hPD:=pDef_yes (L:=L) ht hk (by rw [← isSymS_eq];exact hy)
    have hy2:isSymS ((t :: t2 :: r).drop 1) ⟨#[61]⟩=true:=hy
    have hrl:r.length≤40000:=by simp at htl;omega
    obtain ⟨⟨bad,rest,o⟩,hq⟩:∃ q,pTerm r.length r []=q:=⟨_,rfl⟩
    have hpok:=(p_ok r.length).2.2.2.1 r [] hok.tail.tail
    have hterm:=fun (bx:Nat) (w2:World) (h2:SxAt (bx+1) bx (t :: t2 :: r) w2 2 [] [] false)=>sxTerm_any (bx+1) bx (t :: t2 :: r) r.length 2 r [] w2 rfl (Nat.le_refl _) (by simpa using hrl) (by simpa using h2)
    rw [hq] at hpok hterm
    by_cases hgd:bad=false∧rest=[]
    ·obtain ⟨rfl,rfl⟩:=hgd
     obtain ⟨nw,e1,e2,e3⟩:=hpok.new rfl
     simp only [List.nil_append] at e1
     subst e1
     have HP:=Lib.hid (And.intro e3 (e2 0))
     have hWh:wholeL L s.size r=match chkGo (leafIn L) o 0 [] with
      | some p=>.error p
      | none=>.ok (o.map Prod.fst):=by unfold wholeL;rw [hq];simp;rfl
     rw [hWh] at hPD
     have hfault:=fun (w5:World) (vn va:Value) (hv5:DfsAt w5 (.slice a L.length cap) L) (hvn:NdsAt w5 vn (o.map Prod.fst)) (hva:IntsAt w5 va (o.map Prod.snd)) (hol:o.length≤40000)=>sxFault_any _ vn va L o w5 hv5 hn hsm hvn hva hol HP.out.1 HP.out.2
     cases hCH:chkGo (leafIn L) o 0 [] with
     | some p =>
      rw [hCH] at hPD hfault
      exact sxRd_fault a cap L s w hv hn hsm p t t2 r o hok htl gk hy2 htk hterm hfault (defL_none hPD) (by simpa using chk_code _ _ _ _ hCH)
     | none =>
      rw [hCH] at hPD hfault
      obtain ⟨x,hx0⟩:=chk_type hCH HP.out.2 HP.out.1
      simp only [hx0,Option.getD_some] at hPD
      have hns:=typedL_len hx0
      have hnm:∀ d ∈ o.map Prod.fst,d.name.size≤1048576:=fun d hd=>by
       have:=typedL_names (fun x hx=>(good_bnd hg x hx).1) hx0 d hd
       omega
      have hnok:NdsOk (o.map Prod.fst):=⟨hnm,by omega⟩
      have hts:=hok.head.size
      cases hnmB:nameB t.text
      ·exact sxRd_noname a cap L s w hv hn hsm t t2 r o hok htl gk hy2 htk hterm hfault hts hnmB (show _=_ by unfold defL;rw [hPD];simp [hnmB])
      ·rcases findFrom_cases t.text L 0 with ⟨f1,f2⟩|⟨i,hi,f1,f2⟩
       ·exact sxRd_ok a cap L s w hv hn hsm t t2 r o hok htl gk hy2 htk hterm hfault hts hnmB x hnok hx0 f1 (show _=_ by unfold defL;rw [hPD];simp [hnmB,f2])
       ·rw [Nat.zero_add] at f1
        exact sxRd_taken a cap L s w hv hn hsm t t2 r o hok htl gk hy2 htk hterm hfault hts hnmB i (by omega) f1 (show _=_ by unfold defL;rw [hPD];simp [hnmB,f2])
    ·have HE:Hid (defL L s=none):=(show _=_ by
      refine defL_none ?_
      rw [hPD]
      unfold wholeL
      rw [hq]
      cases bad with
      | true=>rfl
      | false =>
       have:rest ≠ []:=fun e=>hgd ⟨rfl,e⟩
       simp [this])
     have hgd2:bad=true∨(bad=false∧rest ≠ []):=by
      cases bad
      ·exact .inr ⟨rfl,fun e=>hgd ⟨rfl,e⟩⟩
      ·exact .inl rfl
     clear hPD ht hq hpok hgd hy
     rcases hgd2 with rfl|⟨rfl,hrest⟩
     ·go_enter Tryz.func66,Tryz.ntmps66
      go_wp2_with (first|(go_at_call 103;refine htk.mono ?_;rintro e w1 ⟨v1,rfl,ho1,hb1⟩;obtain ⟨b1,o1,c1,he1,hc1,j0,j1,j2⟩:=(tks_at ho1 hok).head;subst he1;have hB1:Below (w.heap.size+1) (w.alloc (.cells #[.string ⟨#[]⟩,.int .i64 0,.int .i64 0,.slice none 0 0] 28)) w1:=hb1.mono (by simp);have zw1:w.heap.size+1≤w1.heap.size:=(by have:=hB1.size;simpa using this))|(go_at_call 104;refine (sxTake_yes _ _ _ 1 _ _ _ _ _ (sx_start ho1 hok (by simp) htl) hy2).mono ?_;rintro e w2 ⟨rfl,h2,hx2⟩;have hB2:Below (w.heap.size+1) (w.alloc (.cells #[.string ⟨#[]⟩,.int .i64 0,.int .i64 0,.slice none 0 0] 28)) w2:=hB1.trans (((Below.refl _ _).alloc zw1 _).trans (below_of_exc hx2 zw1 (by simp;omega)));obtain ⟨bx,hbx⟩:∃ bx,bx=w1.heap.size:=⟨_,rfl⟩;have jj:w2.cell? ⟨b1,o1+1,none⟩=some (.string t.text):=(hx2.cell.1 b1 (o1+1) (by have:=cell_lt j1;simp;omega) (by have:=cell_lt j1;omega)).trans (alloc_keep j1 _);have hb1x:b1<bx:=(by have:=cell_lt j1;omega);rw [← hbx] at h2 zw1 ⊢;clear hbx;obtain ⟨_,k4,_,_,s4⟩:=h2.cells)|(go_at_call 105;refine (hterm bx _ h2).mono ?_;rintro e w3 ⟨⟨nx3,nodes3,ats3,h3,h3d,h3n,_,_⟩,hF3,_,rfl⟩;obtain ⟨k1,k4',_,_,s4'⟩:=h3.cells;have hB3:=hB2.trans (below_of_fr hF3 (B:=w.heap.size+1) (by omega) (by omega));obtain ⟨r0,r1,r2,r3,rf,hz1,hbw1⟩:=res4 hB3))
      refine bodyPost_ret (v:=.tuple #[.agg #[.string ⟨#[]⟩,.int .i64 0,.int .i64 0,.slice none 0 0],.bool false]) (by simp [results,Tryz.results66,go_sem,r0,r1,r2,r3,rf,hz1]) rfl ?_
      rw [HE.out]
      refine ⟨.slice none 0 0,rfl,nds_none _ _,?_⟩
      (repeat (first|(with_reducible refine Below.alloc ?_ ?_ _;rotate_left;(first|omega|(simp;done)|(simp;omega)))|(with_reducible refine Below.setCell ?_ ?_ _;rotate_left;(first|exact Nat.le_refl _|(simp;done)|(simp;omega)))|(with_reducible refine Below.drew ?_)));exact hbw1
     ·have hrl1:rest.length ≠ 0:=fun e=>hrest (List.eq_nil_of_length_eq_zero e)
      clear hrest
      go_enter Tryz.func66,Tryz.ntmps66
      go_wp2_with (first|(go_at_call 103;refine htk.mono ?_;rintro e w1 ⟨v1,rfl,ho1,hb1⟩;obtain ⟨b1,o1,c1,he1,hc1,j0,j1,j2⟩:=(tks_at ho1 hok).head;subst he1;have hB1:Below (w.heap.size+1) (w.alloc (.cells #[.string ⟨#[]⟩,.int .i64 0,.int .i64 0,.slice none 0 0] 28)) w1:=hb1.mono (by simp);have zw1:w.heap.size+1≤w1.heap.size:=(by have:=hB1.size;simpa using this))|(go_at_call 104;refine (sxTake_yes _ _ _ 1 _ _ _ _ _ (sx_start ho1 hok (by simp) htl) hy2).mono ?_;rintro e w2 ⟨rfl,h2,hx2⟩;have hB2:Below (w.heap.size+1) (w.alloc (.cells #[.string ⟨#[]⟩,.int .i64 0,.int .i64 0,.slice none 0 0] 28)) w2:=hB1.trans (((Below.refl _ _).alloc zw1 _).trans (below_of_exc hx2 zw1 (by simp;omega)));obtain ⟨bx,hbx⟩:∃ bx,bx=w1.heap.size:=⟨_,rfl⟩;have jj:w2.cell? ⟨b1,o1+1,none⟩=some (.string t.text):=(hx2.cell.1 b1 (o1+1) (by have:=cell_lt j1;simp;omega) (by have:=cell_lt j1;omega)).trans (alloc_keep j1 _);have hb1x:b1<bx:=(by have:=cell_lt j1;omega);rw [← hbx] at h2 zw1 ⊢;clear hbx;obtain ⟨_,k4,_,_,s4⟩:=h2.cells)|(go_at_call 105;refine (hterm bx _ h2).mono ?_;rintro e w3 ⟨⟨nx3,nodes3,ats3,h3,h3d,h3n,_,_⟩,hF3,_,rfl⟩;obtain ⟨k1,k4',_,_,s4'⟩:=h3.cells;have hB3:=hB2.trans (below_of_fr hF3 (B:=w.heap.size+1) (by omega) (by omega));obtain ⟨r0,r1,r2,r3,rf,hz1,hbw1⟩:=res4 hB3;have hlt3:(nx3:Int)<(r.length:Int)+1+1:=(by have h9:=congrArg List.length h3d;simp at h9;omega)))
      refine bodyPost_ret (v:=.tuple #[.agg #[.string ⟨#[]⟩,.int .i64 0,.int .i64 0,.slice none 0 0],.bool false]) (by simp [results,Tryz.results66,go_sem,r0,r1,r2,r3,rf,hz1]) rfl ?_
      rw [HE.out]
      refine ⟨.slice none 0 0,rfl,nds_none _ _,?_⟩
      (repeat (first|(with_reducible refine Below.alloc ?_ ?_ _;rotate_left;(first|omega|(simp;done)|(simp;omega)))|(with_reducible refine Below.setCell ?_ ?_ _;rotate_left;(first|exact Nat.le_refl _|(simp;done)|(simp;omega)))|(with_reducible refine Below.drew ?_)));exact hbw1
   ·have hyf:isSymS ((t :: r).drop 1) ⟨#[61]⟩=false:=by simpa using hy
    have HE:Hid (defL L s=none):=defL_none (pDef_no ht (fun h=>hy (by rw [isSymS_eq];exact h.2)))
    clear ht hy
    go_enter Tryz.func66,Tryz.ntmps66
    go_wp2_with (first|(go_at_call 103;refine htk.mono ?_;rintro e w1 ⟨v1,rfl,ho1,hb1⟩;obtain ⟨b1,o1,c1,he1,hc1,j0,j1,j2⟩:=(tks_at ho1 hok).head;subst he1;have hB1:Below (w.heap.size+1) (w.alloc (.cells #[.string ⟨#[]⟩,.int .i64 0,.int .i64 0,.slice none 0 0] 28)) w1:=hb1.mono (by simp);have zw1:w.heap.size+1≤w1.heap.size:=(by have:=hB1.size;simpa using this))|(go_at_call 104;refine (sxTake_no _ _ _ 1 _ _ _ _ _ (sx_start ho1 hok (by simp) htl) hyf).mono ?_;rintro e w2 ⟨rfl,h2,hx2⟩;have hB2:Below (w.heap.size+1) (w.alloc (.cells #[.string ⟨#[]⟩,.int .i64 0,.int .i64 0,.slice none 0 0] 28)) w2:=hB1.trans (((Below.refl _ _).alloc zw1 _).trans (below_of_exc hx2 zw1 (by simp;omega)));obtain ⟨_,k4,_,_,s4⟩:=h2.cells;obtain ⟨r0,r1,r2,r3,rf,hz1,hbw1⟩:=res4 hB2))
    refine bodyPost_ret (v:=.tuple #[.agg #[.string ⟨#[]⟩,.int .i64 0,.int .i64 0,.slice none 0 0],.bool false]) (by simp [results,Tryz.results66,go_sem,r0,r1,r2,r3,rf,hz1]) rfl ?_
    rw [HE.out]
    refine ⟨.slice none 0 0,rfl,nds_none _ _,?_⟩
    (repeat (first|(with_reducible refine Below.alloc ?_ ?_ _;rotate_left;(first|omega|(simp;done)|(simp;omega)))|(with_reducible refine Below.setCell ?_ ?_ _;rotate_left;(first|exact Nat.le_refl _|(simp;done)|(simp;omega)))|(with_reducible refine Below.drew ?_)));exact hbw1
  ·have hwn:∀ t r,ts=t :: r → t.kind ≠ 1:=fun t r e h=>hw ⟨t,r,e,h⟩
   have HE:Hid (defL L s=none):=(show _=_ by
    refine defL_none ?_
    cases ts with
    | nil=>exact pDef_nil ht
    | cons t r=>exact pDef_no ht (fun h=>hwn t r rfl h.1))
   clear ht hw
   cases ts with
   | nil =>
    go_enter Tryz.func66,Tryz.ntmps66
    go_wp2_with (go_at_call 103;refine htk.mono ?_;rintro e w1 ⟨v1,rfl,ho1,hb1⟩;obtain ⟨a1,c1,rfl⟩:=owns_shape ho1;obtain ⟨r0,r1,r2,r3,rf,hz1,hbw1⟩:=res4 (hb1.mono (by simp)))
    refine bodyPost_ret (v:=.tuple #[.agg #[.string ⟨#[]⟩,.int .i64 0,.int .i64 0,.slice none 0 0],.bool false]) (by simp [results,Tryz.results66,go_sem,r0,r1,r2,r3,rf,hz1]) rfl ?_
    rw [HE.out]
    refine ⟨.slice none 0 0,rfl,nds_none _ _,?_⟩
    (repeat (first|(with_reducible refine Below.alloc ?_ ?_ _;rotate_left;(first|omega|(simp;done)|(simp;omega)))|(with_reducible refine Below.setCell ?_ ?_ _;rotate_left;(first|exact Nat.le_refl _|(simp;done)|(simp;omega)))|(with_reducible refine Below.drew ?_)));exact hbw1
   | cons t r =>
    have gk:(t.kind != 1)=true:=by simpa using hwn t r rfl
    clear hwn
    go_enter Tryz.func66,Tryz.ntmps66
    go_wp2_with (go_at_call 103;refine htk.mono ?_;rintro e w1 ⟨v1,rfl,ho1,hb1⟩;obtain ⟨b1,o1,c1,he1,hc1,j0,j1,j2⟩:=(tks_at ho1 hok).head;subst he1;obtain ⟨r0,r1,r2,r3,rf,hz1,hbw1⟩:=res4 (hb1.mono (by simp)))
    refine bodyPost_ret (v:=.tuple #[.agg #[.string ⟨#[]⟩,.int .i64 0,.int .i64 0,.slice none 0 0],.bool false]) (by simp [results,Tryz.results66,go_sem,r0,r1,r2,r3,rf,hz1]) rfl ?_
    rw [HE.out]
    refine ⟨.slice none 0 0,rfl,nds_none _ _,?_⟩
    (repeat (first|(with_reducible refine Below.alloc ?_ ?_ _;rotate_left;(first|omega|(simp;done)|(simp;omega)))|(with_reducible refine Below.setCell ?_ ?_ _;rotate_left;(first|exact Nat.le_refl _|(simp;done)|(simp;omega)))|(with_reducible refine Below.drew ?_)));exact hbw1
end Go.Proofs.YtldhpaflmnlcaaaGreatDoor
/-
  The reference's ParseDef. Own work.
-/
namespace Go.Proofs.YtldhpaflmnlcaaaGreatDoor
open Go.RowKit
end Go.Proofs.YtldhpaflmnlcaaaGreatDoor
