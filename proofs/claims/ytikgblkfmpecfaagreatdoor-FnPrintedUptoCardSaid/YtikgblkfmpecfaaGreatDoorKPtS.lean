/-
  The reference's sxParse and ParseTerm. Own work.
-/
import Derived.Test.YtikgblkfmpecfaaGreatDoorKPtI
import Derived.Test.YtikgblkfmpecfaaGreatDoorKGG
set_option linter.all false
set_option maxRecDepth 100000
set_option maxHeartbeats 8000000
namespace Go.Proofs.YtikgblkfmpecfaaGreatDoor
open Go.RowKit
theorem sx_start0 {w:World} {B:Nat} {v:Value} {ts:List Tk} (h:TksOwn w B v ts) (hok:TksOk ts) (hm:ts.length≤40000) :
  SxAt (w.heap.size+1) w.heap.size ts (w.alloc (.cells #[v,.int .i64 0,.slice none 0 0,.slice none 0 0,.bool false] 169)) 0 [] [] false:=by
 refine ⟨v,.slice none 0 0,.slice none 0 0,by omega,by simp,by simp,by simp,by simp,by simp,by simp,fun i=>by simp,(tks_at h hok).keep (alloc_below _ _),?_,Nat.zero_le _,hm,⟨by simp,.inl ⟨rfl,rfl⟩⟩,⟨by simp,.inl ⟨rfl,rfl⟩⟩⟩
 rintro b o n c rfl
 rcases h.2 with ⟨e,_⟩|⟨g,cap,cur,e,_,hg,_⟩
 ·cases e
 ·cases e
  have:=(Array.getElem?_eq_some_iff.1 hg).1
  omega
theorem sxParse_any (v:Value) (L:List Df) (s:ByteArray) (w:World) (hv:DfsAt w v L) (hg:good L=true) (hs:s.size≤4194304) :
  Calls Tryz.prog 52 #[v,.string s] w (PtP (ptR (parsT L s)) w):=by
 obtain ⟨hLs,hn⟩:=good_ok hg
 have hgg:goodGo [] L=true:=by simp only [good,Bool.and_eq_true] at hg;exact hg.2
 have hsm:=good_sm hgg
 obtain ⟨a,cap,rfl⟩:∃ a cap,v=.slice a L.length cap:=by obtain ⟨a,cap,rfl,_⟩:=hv;exact ⟨a,cap,rfl⟩
 have htk:=sxTokens_any s (w.alloc (.cells #[.slice none 0 0] 27)) hs
 unfold parsT
 cases ht:tokL s with
 | error p =>
  rw [ht] at htk
  have gc:(p.2 != 0)=true:=by simpa using tokL_code ht
  clear ht
  go_enter Tryz.func52,Tryz.ntmps52
  go_wp2_with (go_at_call 97;refine htk.mono ?_;rintro e w1 ⟨rfl,hb1⟩;obtain ⟨r0,rf,rz,hb⟩:=res1 (hb1.mono (by simp)))
  refine bodyPost_ret (v:=.tuple #[.agg #[.slice none 0 0],.int .i64 p.1,.int .i64 p.2]) (by simp [results,Tryz.results52,go_sem,r0,rf,rz]) rfl ?_
  refine ⟨_,rfl,nds_none _ _,?_⟩
  (repeat (first|(with_reducible refine Below.alloc ?_ ?_ _;rotate_left;(first|omega|(simp;done)|(simp;omega)))|(with_reducible refine Below.setCell ?_ ?_ _;rotate_left;(first|exact Nat.le_refl _|(simp;done)|(simp;omega)))|(with_reducible refine Below.drew ?_)));exact hb
 | ok ts =>
  rw [ht] at htk
  obtain ⟨hok,htl,_⟩:=tokL_ok ht
  simp only
  obtain ⟨⟨bad,rest,o⟩,hq⟩:∃ q,pTerm ts.length ts []=q:=⟨_,rfl⟩
  have hpok:=(p_ok ts.length).2.2.2.1 ts [] hok
  have hterm:=fun (bx:Nat) (w2:World) (h2:SxAt (bx+1) bx ts w2 0 [] [] false)=>sxTerm_any (bx+1) bx ts ts.length 0 ts [] w2 rfl (Nat.le_refl _) (by simpa using htl) (by simpa using h2)
  rw [hq] at hpok hterm
  have hWh:wholeL L s.size ts=if bad=true∨rest ≠ [] then .error (posAt rest s.size,4) else match chkGo (leafIn L) o 0 [] with
    | some p=>.error p
    | none=>.ok (o.map Prod.fst):=by
   unfold wholeL
   rw [hq]
   cases bad
   ·simp;rfl
   ·simp
  rw [hWh]
  obtain ⟨RR,hRR⟩:∃ RR,ptR (if bad=true∨rest ≠ [] then .error (posAt rest s.size,4) else match chkGo (leafIn L) o 0 [] with
    | some p=>.error p
    | none=>.ok (o.map Prod.fst))=RR:=⟨_,rfl⟩
  have hP2:¬ (bad=false∧rest=[]) → RR=([],posAt rest s.size,4):=fun h=>by
   rw [← hRR,if_pos]
   ·rfl
   ·cases bad
    ·exact .inr (fun e=>h ⟨rfl,e⟩)
    ·exact .inl rfl
  have hP1:(bad=false∧rest=[]) → RR=ptR (match chkGo (leafIn L) o 0 [] with
    | some p=>.error p
    | none=>.ok (o.map Prod.fst)):=fun h=>by
   rw [← hRR,if_neg]
   ·rw [h.1,h.2];simp
  have hgoal:ptR (if bad=true∨rest ≠ [] then .error (posAt rest s.size,4) else match chkGo (leafIn L) o 0 [] with
    | some p=>.error p
    | none=>.ok (o.map Prod.fst))=RR:=hRR
  have HP1:=Lib.hid hP1
  have HP2:=Lib.hid hP2
  first|rw [hgoal]|(refine Eq.mp ?_ (show Calls Tryz.prog 52 #[.slice a L.length cap,.string s] w (PtP RR w) from ?_))
  clear hgoal hP1 hP2 hRR
  have HT:=Lib.hid hterm
  have HK:=Lib.hid htk
  clear hterm htk hWh ht hq
  go_enter Tryz.func52,Tryz.ntmps52
  go_wp2_with fail
  refine HK.out.mono ?_
  rintro e w1 ⟨v1,rfl,ho1,hb1⟩
  obtain ⟨a1,c1,rfl⟩:=owns_shape ho1
  have hB1:Below (w.heap.size+1) (w.alloc (.cells #[.slice none 0 0] 27)) w1:=hb1.mono (by simp)
  have zw1:w.heap.size+1≤w1.heap.size:=by have:=hB1.size;simpa using this
  have htk1:=tks_at ho1 hok
  have hst:=sx_start0 ho1 hok htl
  go_wp2_with fail
  refine (HT.out _ _ hst).mono ?_
  rintro e w3 ⟨⟨nx3,nodes3,ats3,h3,h3d,h3n,hf3,hsum⟩,hF3,_,rfl⟩
  obtain ⟨vt3,vn3,va3,hv3⟩:=id h3
  have hB3:Below (w.heap.size+1) (w.alloc (.cells #[.slice none 0 0] 27)) w3:=hB1.trans (((Below.refl _ _).alloc zw1 _).trans (below_of_fr hF3 zw1 (by omega)))
  have h13:Below w1.heap.size w1 w3:=(alloc_below _ _).trans (below_of_fr hF3 (Nat.le_refl _) (by omega))
  have htk3:=htk1.keep h13
  obtain ⟨r0,rf,rz,hb⟩:=res1 hB3
  have hnx:=hv3.nx
  have k1:=hv3.c1
  have k4:=hv3.c4
  have hdl:=congrArg List.length h3d
  simp only [List.length_drop] at hdl
  obtain ⟨bx,hbx⟩:∃ bx,bx=w1.heap.size:=⟨_,rfl⟩
  rw [← hbx] at hv3 k1 k4 ⊢
  have hbw:w.heap.size<bx:=by omega
  have kz:=cell_lt k1
  have hne:¬ w.heap.size=bx:=by omega
  have hne2:¬ bx=w.heap.size:=by omega
  have HBX:=Lib.hid hbx
  clear hbx hst htk1 hF3 hb1 h3
  by_cases hgd:bad=false∧rest=[]
  ·have hR0:=HP1.out hgd
   obtain ⟨rfl,rfl⟩:=hgd
   obtain ⟨nw,e1,e2,e3⟩:=hpok.new rfl
   simp only [List.nil_append] at e1
   subst e1
   obtain ⟨rfl,rfl⟩:=h3n (by first|rfl|trivial)
   have hol:o.length≤40000:=by have:=hsum;simp at this;omega
   obtain ⟨p,hp⟩:∃ p,(chkGo (leafIn L) o 0 []).getD (0,0)=p:=⟨_,rfl⟩
   have hfault:=fun (w5:World) (vn va:Value) (hv5:DfsAt w5 (.slice a L.length cap) L) (hvn:NdsAt w5 vn (o.map Prod.fst)) (hva:IntsAt w5 va (o.map Prod.snd))=>sxFault_any _ vn va L o w5 hv5 hn hsm hvn hva hol e3 (e2 0)
   rw [hp] at hfault
   have hcase:(p.2=0∧RR=(o.map Prod.fst,0,0))∨(p.2 ≠ 0∧RR=([],p.1,p.2)):=by
    cases hc:chkGo (leafIn L) o 0 [] with
    | none=>rw [hc] at hp hR0;subst hp;exact .inl ⟨rfl,hR0⟩
    | some q=>rw [hc] at hp hR0;have:=chk_code _ _ _ _ hc;simp only [Option.getD_some] at hp;subst hp;exact .inr ⟨this,hR0⟩
   have HF:=Lib.hid hfault
   have HCS:=Lib.hid hcase
   have hge:¬ (nx3:Int)<(ts.length:Int):=by simp at hdl;omega
   obtain ⟨an3,cn3,rfl⟩:=hv3.on.slice
   obtain ⟨aa3,ca3,rfl⟩:=owns_shape hv3.oa
   have k2:=hv3.c2
   have k3:=hv3.c3
   have hat3:=hv3.on.at
   have hit3:=rw_ints hv3.oa
   have hown:=hv3.on
   have hlib3:DfsAt w3 (.slice a L.length cap) L:=(hv.keep (alloc_below _ _)).keep (hB3.mono (by simp))
   simp only [List.length_map] at k2 k3 hat3 hit3 hown
   clear hdl hnx h3d h3n hsum hR0 hp hfault hcase e2 e3 hpok hv3 hol htk3
   go_wp2_with fail
   have up3:∀ {w':World},Exc NoT w3.drew w' → Below w3.heap.size w3 w':=fun h=>(Below.refl w3.heap.size w3).drew.trans (h.toBelow.mono (by simp))
   refine region_acts (C:=Exc (NoT) _) 2 [0,1,2,3,4,5,6,7,8,9,10,11,12,13,14] (by kernel_rfl) (by kernel_rfl) (Exc.grows _ _) (Exc.refl _ _) ?_
   iterate 9 (apply x_st rfl rfl rfl;(focus intro u hc' hf';go_simp <;> rfl);intro K hK;go_simp;apply hK;clear hK K)
   refine x_call rfl rfl rfl (Exc.grows _ _) (Exc.refl _ _) 99 (fun K hK=>?_);apply Exists.intro;refine ⟨fun w' hw'=>?_,fun w' hw' hbw=>?_⟩;(focus go_simp;rfl);refine (HF.out _ _ _ (hlib3.keep (up3 hw')) (hat3.keep (up3 hw')) (ints_keep (up3 hw') hit3)).mono ?_;rintro e w6 ⟨rfl,hb6⟩;refine ⟨_,rfl,hb6,fun hx=>?_⟩;go_simp;apply hK;clear hK K
   iterate 5 (apply x_st rfl rfl rfl;(focus intro u hc' hf';go_simp <;> rfl);intro K hK;go_simp;apply hK;clear hK K)
   refine x_nil ?_
   have h36:=up3 hx
   have q0:=cell_keep h36 r0
   have qf:=fun j=>(h36.frozen (p:=⟨w.heap.size,j,none⟩) rz).trans (rf j)
   have q2:=cell_keep h36 k2
   have qz:=cell_lt q0
   have qz2:=cell_lt q2
   have hb2:=hb.trans (h36.mono hb.size)
   have hown2:=hown.keep h36
   clear hx h36 hb6 hw' hbw r0 rf rz k1 k2 k3 k4 kz hat3 hit3 hown hlib3 hb
   rcases HCS.out with ⟨c0,hR⟩|⟨c0,hR⟩
   ·have gc:(p.2 != 0)=false:=by simpa using c0
    have HR:=Lib.hid hR
    clear c0 hR
    go_wp2
    refine bodyPost_ret (v:=.tuple #[.agg #[.slice an3 o.length cn3],.int .i64 0,.int .i64 0]) (by simp [results,Tryz.results52,go_sem,q0,qf,qz]) rfl ?_
    rw [HR.out]
    have hlow:w.heap.size<bx+1:=by omega
    refine ⟨_,rfl,(nds_low hown2 hlow).mono (Nat.le_of_lt hlow),?_⟩
    (repeat (first|(with_reducible refine Below.alloc ?_ ?_ _;rotate_left;(first|omega|(simp;done)|(simp;omega)))|(with_reducible refine Below.setCell ?_ ?_ _;rotate_left;(first|exact Nat.le_refl _|(simp;done)|(simp;omega)))|(with_reducible refine Below.drew ?_)));exact hb2
   ·have gc:(p.2 != 0)=true:=by simpa using c0
    have HR:=Lib.hid hR
    clear c0 hR
    go_wp2
    refine bodyPost_ret (v:=.tuple #[.agg #[.slice none 0 0],.int .i64 p.1,.int .i64 p.2]) (by simp [results,Tryz.results52,go_sem,q0,qf,qz]) rfl ?_
    rw [HR.out]
    refine ⟨_,rfl,nds_none _ _,?_⟩
    (repeat (first|(with_reducible refine Below.alloc ?_ ?_ _;rotate_left;(first|omega|(simp;done)|(simp;omega)))|(with_reducible refine Below.setCell ?_ ?_ _;rotate_left;(first|exact Nat.le_refl _|(simp;done)|(simp;omega)))|(with_reducible refine Below.drew ?_)));exact hb2
  ·have hR:=HP2.out hgd
   have HR:=Lib.hid hR
   clear hR
   cases rest with
   | nil =>
    have hbad:bad=true:=by cases bad <;> first|rfl|exact absurd ⟨rfl,rfl⟩ hgd
    subst hbad
    have heq:((nx3:Int) == (ts.length:Int))=true:=by simp at hdl ⊢;omega
    have HE:=Lib.hid heq
    clear hdl hnx heq h3d hgd
    have he:(nx3:Int)=(ts.length:Int):=by simpa using HE.out
    go_wp2
    refine bodyPost_ret (v:=.tuple #[.agg #[.slice none 0 0],.int .i64 s.size,.int .i64 4]) (by simp [results,Tryz.results52,go_sem,r0,rf,rz]) rfl ?_
    rw [HR.out]
    refine ⟨_,rfl,nds_none _ _,?_⟩
    (repeat (first|(with_reducible refine Below.alloc ?_ ?_ _;rotate_left;(first|omega|(simp;done)|(simp;omega)))|(with_reducible refine Below.setCell ?_ ?_ _;rotate_left;(first|exact Nat.le_refl _|(simp;done)|(simp;omega)))|(with_reducible refine Below.drew ?_)));exact hb
   | cons t r =>
    have hlt:nx3<ts.length:=by simp at hdl;omega
    have hgt:ts[nx3]=t:=by
     have h9:=List.drop_eq_getElem_cons hlt
     rw [h3d] at h9
     exact ((List.cons.inj h9).1).symm
    obtain ⟨b1,o1,c2,hsl,hc2,j0,j1,j2⟩:=htk3.get nx3 hlt
    simp only [Value.slice.injEq] at hsl
    obtain ⟨rfl,_,rfl⟩:=hsl
    rw [hgt] at j2
    have jz:=cell_lt j2
    have g1:((nx3:Int) == (ts.length:Int))=false:=by simp;omega
    have g2:(nx3:Int)<(ts.length:Int):=by omega
    have g3:¬ (nx3:Int)=(ts.length:Int):=by omega
    clear hdl hnx h3d hgd hgt j0 j1
    cases bad
    ·go_wp2_with fail
     go_region
     go_wp2
     refine bodyPost_ret (v:=.tuple #[.agg #[.slice none 0 0],.int .i64 t.pos,.int .i64 4]) (by simp [results,Tryz.results52,go_sem,r0,rf,rz]) rfl ?_
     rw [HR.out]
     refine ⟨_,rfl,nds_none _ _,?_⟩
     (repeat (first|(with_reducible refine Below.alloc ?_ ?_ _;rotate_left;(first|omega|(simp;done)|(simp;omega)))|(with_reducible refine Below.setCell ?_ ?_ _;rotate_left;(first|exact Nat.le_refl _|(simp;done)|(simp;omega)))|(with_reducible refine Below.drew ?_)));exact hb
    ·go_wp2_with fail
     go_region
     go_wp2
     refine bodyPost_ret (v:=.tuple #[.agg #[.slice none 0 0],.int .i64 t.pos,.int .i64 4]) (by simp [results,Tryz.results52,go_sem,r0,rf,rz]) rfl ?_
     rw [HR.out]
     refine ⟨_,rfl,nds_none _ _,?_⟩
     (repeat (first|(with_reducible refine Below.alloc ?_ ?_ _;rotate_left;(first|omega|(simp;done)|(simp;omega)))|(with_reducible refine Below.setCell ?_ ?_ _;rotate_left;(first|exact Nat.le_refl _|(simp;done)|(simp;omega)))|(with_reducible refine Below.drew ?_)));exact hb
theorem specParseTerm_any (v:Value) (L:List Df) (s:ByteArray) (w:World) (hv:DfsAt w v L) (hn:L.length≤1048576) (hLs:∀ d ∈ L,DfOk d) (hs:s.size≤4194304) :
  Calls Tryz.prog 15 #[v,.string s] w (PtP (readT L s) w):=by
 obtain ⟨a,cap,rfl⟩:∃ a cap,v=.slice a L.length cap:=by obtain ⟨a,cap,rfl,_⟩:=hv;exact ⟨a,cap,rfl⟩
 have hil:=fun (w1:World) (h1:DfsAt w1 (.slice a L.length cap) L)=>lbGood_any _ L w1 h1 hn hLs
 unfold readT
 cases hg:good L
 ·rw [hg] at hil
  rw [if_neg (by decide)]
  have HL:=Lib.hid hil
  clear hg hil
  go_enter Tryz.func15,Tryz.ntmps15
  go_wp2_with (go_at_call 51;refine (HL.out _ (hv.keep (alloc_below _ _))).mono ?_;rintro e w1 ⟨rfl,hb1⟩;obtain ⟨r0,rf,rz,hb⟩:=res1 (hb1.mono (by simp)))
  refine bodyPost_ret (v:=.tuple #[.agg #[.slice none 0 0],.int .i64 0,.int .i64 0]) (by simp [results,Tryz.results15,go_sem,r0,rf,rz]) rfl ?_
  refine ⟨_,rfl,nds_none _ _,?_⟩
  (repeat (first|(with_reducible refine Below.alloc ?_ ?_ _;rotate_left;(first|omega|(simp;done)|(simp;omega)))|(with_reducible refine Below.setCell ?_ ?_ _;rotate_left;(first|exact Nat.le_refl _|(simp;done)|(simp;omega)))|(with_reducible refine Below.drew ?_)));exact hb
 ·rw [hg] at hil
  rw [if_pos rfl]
  have hpt:=fun (w1:World) (h1:DfsAt w1 (.slice a L.length cap) L)=>sxParse_any _ L s w1 h1 hg hs
  obtain ⟨R,hR⟩:∃ R,ptR (parsT L s)=R:=⟨_,rfl⟩
  rw [hR] at hpt ⊢
  obtain ⟨ns,p,c⟩:=R
  have HL:=Lib.hid hil
  have HP:=Lib.hid hpt
  clear hg hil hpt hR
  go_enter Tryz.func15,Tryz.ntmps15
  go_wp2_with fail
  refine (HL.out _ (hv.keep (alloc_below _ _))).mono ?_
  rintro e w1 ⟨rfl,hb1⟩
  have hB1:Below (w.heap.size+1) (w.alloc (.cells #[.slice none 0 0] 27)) w1:=hb1.mono (by simp)
  have zw1:w.heap.size+1≤w1.heap.size:=by have:=hB1.size;simpa using this
  go_wp2_with fail
  refine (HP.out _ ((hv.keep (alloc_below _ _)).keep (hB1.mono (by simp)))).mono ?_
  rintro e w2 ⟨vb,rfl,hob,hb2⟩
  simp only at hob ⊢
  obtain ⟨ab,cb,rfl⟩:=hob.slice
  have hB2:=hB1.trans (hb2.mono zw1)
  obtain ⟨r0,rf,rz,hb⟩:=res1 hB2
  have hlow:w.heap.size<w1.heap.size:=by omega
  go_wp2
  refine bodyPost_ret (v:=.tuple #[.agg #[.slice ab ns.length cb],.int .i64 p,.int .i64 c]) (by simp [results,Tryz.results15,go_sem,r0,rf,rz]) rfl ?_
  refine ⟨_,rfl,(nds_low hob hlow).mono (Nat.le_of_lt hlow),?_⟩
  (repeat (first|(with_reducible refine Below.alloc ?_ ?_ _;rotate_left;(first|omega|(simp;done)|(simp;omega)))|(with_reducible refine Below.setCell ?_ ?_ _;rotate_left;(first|exact Nat.le_refl _|(simp;done)|(simp;omega)))|(with_reducible refine Below.drew ?_)));exact hb
end Go.Proofs.YtikgblkfmpecfaaGreatDoor
