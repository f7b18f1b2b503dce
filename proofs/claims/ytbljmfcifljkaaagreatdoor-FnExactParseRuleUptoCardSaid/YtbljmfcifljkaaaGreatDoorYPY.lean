/-
  The reference's reader of a rule: small facts. Own work.
-/
import Derived.Test.YtbljmfcifljkaaaGreatDoorYFF
import Derived.Test.YtbljmfcifljkaaaGreatDoorYPX
import Derived.Test.YtbljmfcifljkaaaGreatDoorYRuV
set_option linter.all false
set_option maxRecDepth 100000
set_option maxHeartbeats 8000000
namespace Go.Proofs.YtbljmfcifljkaaaGreatDoor
open Go.RowKit
set_option maxRecDepth 100000
set_option maxHeartbeats 1000000
theorem tokFrom_codeR (s:ByteArray):∀ (n k:Nat),s.size - k=n → ∀ p,tokFrom s k=.error p → p.2 ≠ 0:=by
 intro n
 induction n using Nat.strongRecOn with
 | _ n ih =>
  intro k hn p h
  rw [tokFrom] at h
  split at h
  ·rename_i hk
   split at h
   ·exact ih (s.size - (k+1)) (by omega) (k+1) rfl p h
   ·split at h
    ·have he:=(endOf_le (p:=lodB) (s:=s) (i:=k+1) hk).1
     cases hr:tokFrom s (endOf lodB s (k+1)) with
     | ok r=>rw [hr] at h;cases h
     | error e=>rw [hr] at h;cases h;exact ih (s.size - endOf lodB s (k+1)) (by omega) _ rfl p hr
    ·split at h
     ·split at h
      ·cases h;simp
      ·have he:=(endOf_le (p:=digB) (s:=s) (i:=k+1) hk).1
       cases hr:tokFrom s (endOf digB s (k+1)) with
       | ok r=>rw [hr] at h;cases h
       | error e=>rw [hr] at h;cases h;exact ih (s.size - endOf digB s (k+1)) (by omega) _ rfl p hr
     ·split at h
      ·cases hr:tokFrom s (k+1) with
       | ok r=>rw [hr] at h;cases h
       | error e=>rw [hr] at h;cases h;exact ih (s.size - (k+1)) (by omega) _ rfl p hr
      ·cases h;simp
  ·cases h
theorem tokL_codeR {s:ByteArray} {p:Int × Int} (h:tokL s=.error p):p.2 ≠ 0:=by
 unfold tokL at h
 split at h
 ·cases h;simp
 ·exact tokFrom_codeR s _ 0 rfl p h
theorem chk_codeR {leaf:Nd → Option W2}:∀ (r:Rd) (i:Nat) (st:List W2) (p:Int × Int),chkGo leaf r i st=some p → p.2 ≠ 0
 | [],_,_,p,h=>by cases h
 | x :: r,i,st,p,h=>by
  unfold chkGo at h
  split at h
  ·cases h;simp
  ·split at h
   ·split at h
    ·split at h
     ·exact chk_codeR r _ _ p h
     ·cases h;simp
    ·cases h;simp
   ·split at h
    ·exact chk_codeR r _ _ p h
    ·cases h;simp only;split <;> simp
theorem sx_startR {w:World} {B:Nat} {v:Value} {ts:List Tk} (h:TksOwn w B v ts) (hok:TksOk ts) (hl:1≤ts.length) (hm:ts.length≤40000) :
  SxAt (w.heap.size+1) w.heap.size ts (w.alloc (.cells #[v,.int .i64 1,.slice none 0 0,.slice none 0 0,.bool false] 90)) 1 [] [] false:=by
 refine ⟨v,.slice none 0 0,.slice none 0 0,by omega,by simp,by simp,by simp,by simp,by simp,by simp,fun i=>by simp,(tks_at h hok).keep (alloc_below _ _),?_,hl,hm,⟨by simp,.inl ⟨rfl,rfl⟩⟩,⟨by simp,.inl ⟨rfl,rfl⟩⟩⟩
 rintro b o n c rfl
 rcases h.2 with ⟨e,_⟩|⟨g,cap,cur,e,_,hg,_⟩
 ·cases e
 ·cases e
  have:=(Array.getElem?_eq_some_iff.1 hg).1
  omega
theorem sx_clear {B B' bx:Nat} {all:List Tk} {w:World} {nx:Nat} {nodes:List Nd} {ats:List Int} {failed:Bool} (h:SxAt B bx all w nx nodes ats failed) (hB:B≤B') (hw:B'≤w.heap.size) :
  SxAt B' bx all ((w.setCell ⟨bx,2,none⟩ (.slice none 0 0)).setCell ⟨bx,3,none⟩ (.slice none 0 0)) nx [] [] failed:=by
 obtain ⟨vt,vn,va,h⟩:=h
 have hE:Exc (fun k=>k=bx) w ((w.setCell ⟨bx,2,none⟩ (.slice none 0 0)).setCell ⟨bx,3,none⟩ (.slice none 0 0)):=exc_set (exc_set (T:=fun k=>k=bx) (Exc.refl _ w) (.inr rfl) _) (.inr rfl) _
 have hF:Fr B bx w ((w.setCell ⟨bx,2,none⟩ (.slice none 0 0)).setCell ⟨bx,3,none⟩ (.slice none 0 0)):=Fr.exc h.sz hE (fun k hk=>.inl hk)
 have c0:=h.c0
 have c1:=h.c1
 have c2:=h.c2
 have c3:=h.c3
 have c4:=h.c4
 refine ⟨vt,.slice none 0 0,.slice none 0 0,Nat.lt_of_lt_of_le h.lt hB,by simpa using hw,?_,?_,?_,?_,?_,fun i=>?_,h.tk.fr hF h.low,fun b o n c e=>⟨Nat.lt_of_lt_of_le (h.low b o n c e).1 hB,(h.low b o n c e).2⟩,h.nx,h.len,⟨by simp,.inl ⟨rfl,rfl⟩⟩,⟨by simp,.inl ⟨rfl,rfl⟩⟩⟩
 ·go_simp
 ·go_simp
 ·go_simp
 ·go_simp
 ·go_simp
 ·simpa using h.fz i
theorem owns_fr {w w':World} {B br e sz n:Nat} {v:Value} {xs:List Value} (h:w.ownsRow B e sz v n xs) (hF:Fr w.heap.size br w w') (hb:br<B):w'.ownsRow B e sz v n xs :=
 owns_exc (T:=fun k=>k=br) ⟨hF.os,hF.tape,hF.output,hF.size,fun k hk hn=>hF.block k hk hn⟩ h (fun k hk e=>by have:=(World.ownsRow.lt h k hk).1;omega)
theorem pl_no {s nm:ByteArray} {r r':List Tk} {o:Rd} {b:Bool} (h:pTerm r.length r []=⟨b,r',o⟩) (hs:isSym r' 61=false):pLeft s nm r=none:=by
 unfold pLeft
 rw [h]
 cases b with
 | true=>rfl
 | false =>
  simp only
  cases chkGo (leafIn []) o 0 [] with
  | some p=>rfl
  | none=>exact pg_no hs
theorem pl_bad2 {s nm:ByteArray} {r r':List Tk} {o:Rd} {b:Bool} {t:Tk} {p:Int × Int} (h:pTerm r.length r []=⟨b,t :: r',o⟩) (hw:wholeL [] s.size r'=.error p):pLeft s nm r=none:=by
 unfold pLeft
 rw [h]
 cases b with
 | true=>rfl
 | false =>
  simp only
  cases chkGo (leafIn []) o 0 [] with
  | some p=>rfl
  | none =>
   unfold pRight
   cases isSym (t :: r') 61 with
   | true=>simp only [List.tail_cons,hw];rfl
   | false=>rfl
theorem wh_bad {en:Int} {L:List Df} {r r':List Tk} {o:Rd} (h:pTerm r.length r []=⟨true,r',o⟩):∃ p,wholeL L en r=.error p:=by unfold wholeL;rw [h];exact ⟨_,rfl⟩
theorem wh_rest {en:Int} {L:List Df} {r r':List Tk} {o:Rd} (h:pTerm r.length r []=⟨false,r',o⟩) (hr:r' ≠ []):∃ p,wholeL L en r=.error p:=by unfold wholeL;rw [h];simp only;rw [if_pos hr];exact ⟨_,rfl⟩
theorem wh_chk {en:Int} {L:List Df} {r:List Tk} {o:Rd} {p:Int × Int} (h:pTerm r.length r []=⟨false,[],o⟩) (hc:chkGo (leafIn L) o 0 []=some p):wholeL L en r=.error p:=by unfold wholeL;rw [h];simp [hc]
theorem wh_ok {en:Int} {L:List Df} {r:List Tk} {o:Rd} (h:pTerm r.length r []=⟨false,[],o⟩) (hc:chkGo (leafIn L) o 0 []=none):wholeL L en r=.ok (o.map Prod.fst):=by unfold wholeL;rw [h];simp [hc]
end Go.Proofs.YtbljmfcifljkaaaGreatDoor
/-
  The reference's ParseRule, walked. Own work; printed by a program of my own (parPs2.py).
-/
namespace Go.Proofs.YtbljmfcifljkaaaGreatDoor
open Go.RowKit
set_option maxRecDepth 100000
set_option maxHeartbeats 1000000
structure PySt (w:World) (bx b1 o1:Nat) (nm:ByteArray) (W:World):Prop where
 bel:Below (w.heap.size+1) (w.alloc (.cells #[.string ⟨#[]⟩,.slice none 0 0,.slice none 0 0] 32)) W
 lo:w.heap.size+1≤bx
 lt:b1<bx
 sz:bx<W.heap.size
 j:W.cell? ⟨b1,o1+1,none⟩=some (.string nm)
theorem PySt.exc {w:World} {bx b1 o1:Nat} {nm:ByteArray} {W W':World} (h:PySt w bx b1 o1 nm W) (hx:Exc (fun k=>k=bx) W W'):PySt w bx b1 o1 nm W':=by
 have h1:=h.lt
 have h2:=h.sz
 have h3:=hx.size
 exact ⟨h.bel.trans (below_of_exc hx h.lo (by have:=h.bel.size;simpa using this)),h.lo,h.lt,by omega,(hx.cell.1 b1 (o1+1) (by omega) (by omega)).trans h.j⟩
theorem PySt.fr {w:World} {B bx b1 o1:Nat} {nm:ByteArray} {W W':World} (h:PySt w bx b1 o1 nm W) (hF:Fr B bx W W') (hB:bx<B):PySt w bx b1 o1 nm W':=by
 have h1:=h.lt
 have h2:=h.sz
 have h3:=hF.size
 have h4:=h.lo
 exact ⟨h.bel.trans (below_of_fr hF h.lo (by omega)),h.lo,h.lt,by omega,(hF.cell (by omega) (by omega)).trans h.j⟩
theorem PySt.below {w:World} {bx b1 o1:Nat} {nm:ByteArray} {W W':World} (h:PySt w bx b1 o1 nm W) (hb:Below W.heap.size W W'):PySt w bx b1 o1 nm W' :=
 ⟨h.bel.trans (hb.mono (by have:=h.bel.size;simpa using this)),h.lo,h.lt,Nat.lt_of_lt_of_le h.sz hb.size,cell_keep hb h.j⟩
theorem rule_none {s:ByteArray} (h:pRuleL s=none):ruleL s=none:=by unfold ruleL;rw [h];rfl
theorem parseRuleS_any (s:ByteArray) (w:World) (hs:s.size≤4194304) :
  Calls Tryz.prog 13 #[.string s] w (RuPost (ruleL s) w):=by
 have htk:=Lib.hid (sxTokens_any s (w.alloc (.cells #[.string ⟨#[]⟩,.slice none 0 0,.slice none 0 0] 32)) hs)
 go_enter Tryz.func13,Tryz.ntmps13
 go_wp2_with fail
 refine htk.out.mono ?_
 intro e w1 hpost
 clear htk
 cases ht:tokL s with
 | error p =>
  rw [ht] at hpost
  obtain ⟨rfl,hb1⟩:=hpost
  have hbE:Below (w.heap.size+1) (w.alloc (.cells #[.string ⟨#[]⟩,.slice none 0 0,.slice none 0 0] 32)) w1:=hb1.mono (by simp)
  have gc:(p.2 != 0)=true:=by simpa using tokL_codeR ht
  have HE:Hid (ruleL s=none):=Lib.hid (rule_none (pr_err ht))
  obtain ⟨r0,r1,r2',rf,hz,hbw⟩:=res3 hbE
  clear ht hb1 hbE
  go_wp2
  refine bodyPost_ret (v:=.tuple #[.agg #[.string ⟨#[]⟩,.slice none 0 0,.slice none 0 0],.bool false]) (by simp [results,Tryz.results13,go_sem,r0,r1,r2',rf,hz]) rfl ?_
  rw [HE.out]
  refine ⟨_,_,rfl,nds_none _ _,nds_none _ _,(fun _ h=>by cases h),?_⟩
  (repeat (first|(with_reducible refine Below.alloc ?_ ?_ _;rotate_left;(first|omega|(simp;done)|(simp;omega)))|(with_reducible refine Below.setCell ?_ ?_ _;rotate_left;(first|exact Nat.le_refl _|(simp;done)|(simp;omega)))|(with_reducible refine Below.drew ?_)));exact hbw
 | ok ts =>
 obtain ⟨hok,htl,_⟩:=tokL_ok ht
 rw [ht] at hpost
 obtain ⟨v1,rfl,ho1,hb1⟩:=hpost
 have hbE:Below (w.heap.size+1) (w.alloc (.cells #[.string ⟨#[]⟩,.slice none 0 0,.slice none 0 0] 32)) w1:=hb1.mono (by simp)
 cases ts with
 | nil =>
  obtain ⟨a1,c1,rfl⟩:=owns_shape ho1
  have HE:Hid (ruleL s=none):=Lib.hid (rule_none (pr_nil ht))
  obtain ⟨r0,r1,r2',rf,hz,hbw⟩:=res3 hbE
  clear ht hb1 ho1 hbE
  go_wp2
  refine bodyPost_ret (v:=.tuple #[.agg #[.string ⟨#[]⟩,.slice none 0 0,.slice none 0 0],.bool false]) (by simp [results,Tryz.results13,go_sem,r0,r1,r2',rf,hz]) rfl ?_
  rw [HE.out]
  refine ⟨_,_,rfl,nds_none _ _,nds_none _ _,(fun _ h=>by cases h),?_⟩
  (repeat (first|(with_reducible refine Below.alloc ?_ ?_ _;rotate_left;(first|omega|(simp;done)|(simp;omega)))|(with_reducible refine Below.setCell ?_ ?_ _;rotate_left;(first|exact Nat.le_refl _|(simp;done)|(simp;omega)))|(with_reducible refine Below.drew ?_)));exact hbw
 | cons t r =>
 obtain ⟨b1,o1,c1,he1,hc1,j0,j1,j2⟩:=(tks_at ho1 hok).head
 subst he1
 by_cases hk:t.kind=1
 rotate_left
 ·have gk:(t.kind != 1)=true:=by simpa using hk
  have HE:Hid (ruleL s=none):=Lib.hid (rule_none (pr_no ht (fun h=>hk h.1)))
  obtain ⟨r0,r1,r2',rf,hz,hbw⟩:=res3 hbE
  clear ht hb1 ho1 hbE hk
  go_wp2
  refine bodyPost_ret (v:=.tuple #[.agg #[.string ⟨#[]⟩,.slice none 0 0,.slice none 0 0],.bool false]) (by simp [results,Tryz.results13,go_sem,r0,r1,r2',rf,hz]) rfl ?_
  rw [HE.out]
  refine ⟨_,_,rfl,nds_none _ _,nds_none _ _,(fun _ h=>by cases h),?_⟩
  (repeat (first|(with_reducible refine Below.alloc ?_ ?_ _;rotate_left;(first|omega|(simp;done)|(simp;omega)))|(with_reducible refine Below.setCell ?_ ?_ _;rotate_left;(first|exact Nat.le_refl _|(simp;done)|(simp;omega)))|(with_reducible refine Below.drew ?_)));exact hbw
 have gk:(t.kind != 1)=false:=by simp [hk]
 have st0:=sx_startR ho1 hok (by simp) htl
 have HT:=Lib.hid ht
 have HK:=Lib.hid hk
 have HTL:=Lib.hid htl
 have hzw:=hbE.size
 simp only [World.size_alloc] at hzw
 have py0:PySt w w1.heap.size b1 o1 t.text (w1.alloc (.cells #[.slice (some ⟨b1,o1,none⟩) (r.length+1) c1,.int .i64 1,.slice none 0 0,.slice none 0 0,.bool false] 90)):=⟨hbE.alloc hzw _,hzw,cell_lt j1,by simp,alloc_keep j1 _⟩
 clear ht hk hb1 ho1 hbE j1 j2 htl
 go_wp2_with fail
 obtain ⟨bx,hbx⟩:∃ bx,bx=w1.heap.size:=⟨_,rfl⟩
 rw [← hbx] at st0 py0 ⊢
 generalize (w1.alloc (.cells #[.slice (some ⟨b1,o1,none⟩) (r.length+1) c1,.int .i64 1,.slice none 0 0,.slice none 0 0,.bool false] 90))=W0 at st0 py0 ⊢
 clear hbx j0 gk hzw
 by_cases hy:isSymS ((t :: r).drop 1) ⟨#[58]⟩=true
 rotate_left
 ·refine (sxTake_no _ _ _ 1 _ _ _ _ _ st0 (by simpa using hy)).mono ?_
  rintro e W1 ⟨rfl,st1,hx1⟩
  have hbE:=(py0.exc hx1).bel
  obtain ⟨k1,k4,_,_,s4⟩:=st1.cells
  have HE:Hid (ruleL s=none):=Lib.hid (rule_none (pr_no HT.out (fun h=>hy (by rw [List.drop_one,List.tail_cons,isSymS_eq];exact h.2))))
  obtain ⟨r0,r1,r2',rf,hz,hbw⟩:=res3 hbE
  clear st0 st1 py0 hx1 hbE hy
  go_wp2
  refine bodyPost_ret (v:=.tuple #[.agg #[.string ⟨#[]⟩,.slice none 0 0,.slice none 0 0],.bool false]) (by simp [results,Tryz.results13,go_sem,r0,r1,r2',rf,hz]) rfl ?_
  rw [HE.out]
  refine ⟨_,_,rfl,nds_none _ _,nds_none _ _,(fun _ h=>by cases h),?_⟩
  (repeat (first|(with_reducible refine Below.alloc ?_ ?_ _;rotate_left;(first|omega|(simp;done)|(simp;omega)))|(with_reducible refine Below.setCell ?_ ?_ _;rotate_left;(first|exact Nat.le_refl _|(simp;done)|(simp;omega)))|(with_reducible refine Below.drew ?_)));exact hbw
 obtain ⟨t2,r2,rfl⟩:∃ t2 r2,r=t2 :: r2:=by
  cases r with
  | nil=>cases hy
  | cons a b=>exact ⟨a,b,rfl⟩
 have HR:=Lib.hid (pr_yes HT.out HK.out (by rw [← isSymS_eq];exact hy))
 refine (sxTake_yes _ _ _ 1 _ _ _ _ _ st0 hy).mono ?_
 rintro e W1 ⟨rfl,st1,hx1⟩
 have py1:=py0.exc hx1
 obtain ⟨k1,k4,_,_,s4⟩:=st1.cells
 have HRL:Hid (r2.length≤39998):=Lib.hid (by have:=HTL.out;simp only [List.length_cons] at this;omega)
 have HOK:=Lib.hid ((p_ok r2.length).2.2.2.1 r2 [] hok.tail.tail)
 have HOT:=Lib.hid hok
 have HD:Hid ((t :: t2 :: r2).drop 2=r2):=Lib.hid rfl
 obtain ⟨N,hN⟩:∃ N,N=(t2 :: r2).length+1:=⟨_,rfl⟩
 obtain ⟨all,hall⟩:∃ all,all=t :: t2 :: r2:=⟨_,rfl⟩
 rw [← hall] at st1 HD HOT HTL
 rw [← hN]
 have HN0:Hid (0<N):=Lib.hid (by rw [hN];omega)
 have HN:Hid (all.length=N):=Lib.hid (by rw [hall,hN];rfl)
 clear hx1 st0 py0 HT HK hy hok hall hN
 go_wp2_with fail
 refine (sxTerm_any (bx+1) bx all r2.length 2 r2 [] W1 HD.out (Nat.le_refl _) (by have:=HRL.out;simp;omega) st1).mono ?_
 intro e W2 hpp
 obtain ⟨⟨bad,rest,o⟩,hq⟩:∃ q,pTerm r2.length r2 []=q:=⟨_,rfl⟩
 rw [hq] at hpp HOK
 obtain ⟨⟨nx,nodes,ats,st2,hd2,hnn,hnl,hsum⟩,hF2,_,rfl⟩:=hpp
 simp only [List.length_nil,Nat.zero_add] at hsum hnn hd2
 have py2:=py1.fr hF2 (by omega)
 obtain ⟨vt,vn,va,hv⟩:=id st2
 have k2:=hv.c2
 have k3:=hv.c3
 obtain ⟨an,cn,rfl⟩:=owns_shape hv.on
 obtain ⟨aa,ca,rfl⟩:=owns_shape hv.oa
 have hon:=hv.on
 have hoa:=hv.oa
 have HQ:=Lib.hid hq
 have HS:=Lib.hid (And.intro hnn (And.intro hnl hsum))
 have HD2:=Lib.hid hd2
 clear k1 k4 s4 py1 st1 hF2 hv hq hnn hnl hsum hd2 HD
 have s4:=st2.cells.2.2.2.2
 go_wp2_with fail
 refine region_acts (C:=Exc (NoT) _) 6 [0,1,2,3,4,5,6,7,8,9] (by kernel_rfl) (by kernel_rfl) (Exc.grows _ _) (Exc.refl _ _) ?_
 iterate 10 (apply x_st rfl rfl rfl;(focus intro u hc' hf';go_simp <;> rfl);intro K hK;go_simp;apply hK;clear hK K)
 refine x_nil ?_
 have hbD:Below W2.heap.size W2 W2.drew:=(Below.refl _ _).drew
 have py3:=py2.below hbD
 have st3:=sxAt_below st2 hbD
 have hon3:=NdsOwn.keep hbD hon
 have hoa3:=owns_keep hbD hoa
 generalize W2.drew=W3 at py3 st3 hon3 hoa3 ⊢
 clear py2 st2 hon hoa k2 k3 hbD s4
 obtain ⟨k1,k4,_,_,s4⟩:=st3.cells
 cases bad with
 | true =>
  have hbE:=py3.bel
  have HE:Hid (ruleL s=none):=Lib.hid (rule_none (HR.out.trans (pl_bad HQ.out)))
  obtain ⟨r0,r1,r2',rf,hz,hbw⟩:=res3 hbE
  clear st3 py3 hbE hon3 hoa3
  go_wp2
  refine bodyPost_ret (v:=.tuple #[.agg #[.string ⟨#[]⟩,.slice none 0 0,.slice none 0 0],.bool false]) (by simp [results,Tryz.results13,go_sem,r0,r1,r2',rf,hz]) rfl ?_
  rw [HE.out]
  refine ⟨_,_,rfl,nds_none _ _,nds_none _ _,(fun _ h=>by cases h),?_⟩
  (repeat (first|(with_reducible refine Below.alloc ?_ ?_ _;rotate_left;(first|omega|(simp;done)|(simp;omega)))|(with_reducible refine Below.setCell ?_ ?_ _;rotate_left;(first|exact Nat.le_refl _|(simp;done)|(simp;omega)))|(with_reducible refine Below.drew ?_)));exact hbw
 | false =>
 obtain ⟨rfl,rfl⟩:=HS.out.1 rfl
 obtain ⟨nw,e1,e2,e3⟩:=HOK.out.new rfl
 simp only [List.nil_append] at e1
 subst e1
 have HP:=Lib.hid (And.intro e3 (e2 0))
 obtain ⟨sf,hsf⟩:=HOK.out.suf
 simp only at hsf
 have HSF:=Lib.hid hsf
 clear e2 e3 HOK hsf
 go_wp2_with fail
 clear k1 k4 s4
 by_cases hy:isSymS (all.drop nx) ⟨#[61]⟩=true
 rotate_left
 ·refine (sxTake_no _ _ _ _ _ _ _ _ _ st3 (by simpa using hy)).mono ?_
  rintro e W4 ⟨rfl,st4,hx4⟩
  have hbE:=(py3.exc hx4).bel
  obtain ⟨k1,k4,_,_,s4⟩:=st4.cells
  have HE:Hid (ruleL s=none):=Lib.hid (rule_none (HR.out.trans (pl_no HQ.out (by have:=HD2.out;rw [isSymS_eq,this] at hy;simpa using hy))))
  obtain ⟨r0,r1,r2',rf,hz,hbw⟩:=res3 hbE
  clear st3 st4 py3 hx4 hbE hon3 hoa3 hy
  go_wp2
  refine bodyPost_ret (v:=.tuple #[.agg #[.string ⟨#[]⟩,.slice none 0 0,.slice none 0 0],.bool false]) (by simp [results,Tryz.results13,go_sem,r0,r1,r2',rf,hz]) rfl ?_
  rw [HE.out]
  refine ⟨_,_,rfl,nds_none _ _,nds_none _ _,(fun _ h=>by cases h),?_⟩
  (repeat (first|(with_reducible refine Below.alloc ?_ ?_ _;rotate_left;(first|omega|(simp;done)|(simp;omega)))|(with_reducible refine Below.setCell ?_ ?_ _;rotate_left;(first|exact Nat.le_refl _|(simp;done)|(simp;omega)))|(with_reducible refine Below.drew ?_)));exact hbw
 obtain ⟨t3,rest2,hrest⟩:∃ t3 rest2,rest=t3 :: rest2:=by
  rw [HD2.out] at hy
  cases rest with
  | nil=>cases hy
  | cons a b=>exact ⟨a,b,rfl⟩
 have HY:Hid (isSym rest 61=true):=Lib.hid (by rw [← isSymS_eq,← HD2.out];exact hy)
 refine (sxTake_yes _ _ _ _ _ _ _ _ _ st3 hy).mono ?_
 rintro e W4 ⟨rfl,st4,hx4⟩
 subst hrest
 have py4:=py3.exc hx4
 have s3:=py3.sz
 have hon4:NdsOwn W4 (bx+1) _ _:=owns_exc hx4 hon3 (fun k hk e=>by have:=(World.ownsRow.lt hon3 k hk).1;omega)
 have hoa4:=owns_exc hx4 hoa3 (fun k hk e=>by have:=(World.ownsRow.lt hoa3 k hk).1;omega)
 have HD4:Hid (all.drop (nx+1)=rest2):=Lib.hid (by rw [← List.drop_drop,HD2.out];rfl)
 have st5:=sx_clear (B':=W4.heap.size) st4 (by have:=py4.sz;omega) (Nat.le_refl _)
 have hx5:Exc (fun k=>k=bx) W4 ((W4.setCell ⟨bx,2,none⟩ (.slice none 0 0)).setCell ⟨bx,3,none⟩ (.slice none 0 0)):=exc_set (exc_set (T:=fun k=>k=bx) (Exc.refl _ _) (.inr rfl) _) (.inr rfl) _
 have py5:=py4.exc hx5
 have hon5:NdsOwn _ (bx+1) _ _:=owns_exc hx5 hon4 (fun k hk e=>by have:=(World.ownsRow.lt hon4 k hk).1;omega)
 have hoa5:=owns_exc hx5 hoa4 (fun k hk e=>by have:=(World.ownsRow.lt hoa4 k hk).1;omega)
 have hz5:W4.heap.size=((W4.setCell ⟨bx,2,none⟩ (.slice none 0 0)).setCell ⟨bx,3,none⟩ (.slice none 0 0)).heap.size:=by simp
 obtain ⟨vt4,vn4,va4,hv4⟩:=id st4
 obtain ⟨k1,k4,_,_,s4⟩:=st4.cells
 have k2:=hv4.c2
 have k3:=hv4.c3
 have kf:=hv4.fz
 clear hv4 st3 py3 py4 hx4 hon3 hoa3 hon4 hoa4 hx5 hy st4
 go_wp2_with fail
 clear k1 k2 k3 k4 kf s4 s3
 rw [hz5] at st5
 generalize ((W4.setCell ⟨bx,2,none⟩ (.slice none 0 0)).setCell ⟨bx,3,none⟩ (.slice none 0 0))=W5 at st5 py5 hon5 hoa5 ⊢
 clear hz5
 have HL2:Hid (o.length≤39998∧rest2.length≤39998):=Lib.hid (by
  have h1:=HS.out.2.2
  have h2:=HRL.out
  simp only [List.length_map,List.length_cons] at h1
  omega)
 have hokr:TksOk rest2:=by rw [← HD4.out];exact HOT.out.drop _
 have HOK2:=Lib.hid ((p_ok rest2.length).2.2.2.1 rest2 [] hokr)
 refine (sxTerm_any W5.heap.size bx all rest2.length (nx+1) rest2 [] W5 HD4.out (Nat.le_refl _) (by have:=HL2.out.2;simp;omega) st5).mono ?_
 intro e W6 hpp
 obtain ⟨⟨bad2,rest3,o2⟩,hq2⟩:∃ q,pTerm rest2.length rest2 []=q:=⟨_,rfl⟩
 rw [hq2] at hpp HOK2
 obtain ⟨⟨nx6,nodes6,ats6,st6,hd6,hnn,hnl,hsum⟩,hF6,_,rfl⟩:=hpp
 simp only [List.length_nil,Nat.zero_add] at hsum hnn hd6
 have py6:=py5.fr hF6 py5.sz
 have hon6:NdsOwn W6 (bx+1) _ _:=owns_fr hon5 hF6 (by omega)
 have hoa6:=owns_fr hoa5 hF6 (by omega)
 have HZ5:=Lib.hid py5.sz
 have HLN:=Lib.hid (fun k hk=>(World.ownsRow.lt hon5 k hk).2)
 have hz56:=hF6.size
 have HQ2:=Lib.hid hq2
 have HS2:=Lib.hid (And.intro hnn (And.intro hnl hsum))
 have HD6:=Lib.hid hd6
 obtain ⟨vt6,vn6,va6,hv6⟩:=id st6
 have k2:=hv6.c2
 have k3:=hv6.c3
 obtain ⟨k1,k4,_,_,s4⟩:=st6.cells
 have HNX:Hid (nx6≤N):=Lib.hid (by have:=hv6.nx;rw [HN.out] at this;exact this)
 clear hnn hnl hsum hd6 hF6 hon5 hoa5 py5 st5 hq2 hokr
 cases bad2 with
 | true =>
  have hbE:=py6.bel
  have HE:Hid (ruleL s=none):=Lib.hid (rule_none (by
   obtain ⟨p,hp⟩:=wh_bad (en:=s.size) (L:=[]) HQ2.out
   exact HR.out.trans (pl_bad2 HQ.out hp)))
  obtain ⟨r0,r1,r2',rf,hz,hbw⟩:=res3 hbE
  clear st6 py6 hbE hon6 hoa6 hv6
  go_wp2
  refine bodyPost_ret (v:=.tuple #[.agg #[.string ⟨#[]⟩,.slice none 0 0,.slice none 0 0],.bool false]) (by simp [results,Tryz.results13,go_sem,r0,r1,r2',rf,hz]) rfl ?_
  rw [HE.out]
  refine ⟨_,_,rfl,nds_none _ _,nds_none _ _,(fun _ h=>by cases h),?_⟩
  (repeat (first|(with_reducible refine Below.alloc ?_ ?_ _;rotate_left;(first|omega|(simp;done)|(simp;omega)))|(with_reducible refine Below.setCell ?_ ?_ _;rotate_left;(first|exact Nat.le_refl _|(simp;done)|(simp;omega)))|(with_reducible refine Below.drew ?_)));exact hbw
 | false =>
 by_cases hr3:rest3=[]
 rotate_left
 ·have hbE:=py6.bel
  have HE:Hid (ruleL s=none):=Lib.hid (rule_none (by
   obtain ⟨p,hp⟩:=wh_rest (en:=s.size) (L:=[]) HQ2.out hr3
   exact HR.out.trans (pl_bad2 HQ.out hp)))
  have hlt:(nx6:Int)<(N:Int):=by
   have h1:=HD6.out
   have h2:=HN.out
   have:nx6<N:=by
    rcases Nat.lt_or_ge nx6 N with h|h
    ·exact h
    ·exact absurd (by rw [← h1,List.drop_eq_nil_of_le (by omega)]) hr3
   omega
  obtain ⟨r0,r1,r2',rf,hz,hbw⟩:=res3 hbE
  clear st6 py6 hbE hon6 hoa6 hv6 hr3
  go_wp2
  refine bodyPost_ret (v:=.tuple #[.agg #[.string ⟨#[]⟩,.slice none 0 0,.slice none 0 0],.bool false]) (by simp [results,Tryz.results13,go_sem,r0,r1,r2',rf,hz]) rfl ?_
  rw [HE.out]
  refine ⟨_,_,rfl,nds_none _ _,nds_none _ _,(fun _ h=>by cases h),?_⟩
  (repeat (first|(with_reducible refine Below.alloc ?_ ?_ _;rotate_left;(first|omega|(simp;done)|(simp;omega)))|(with_reducible refine Below.setCell ?_ ?_ _;rotate_left;(first|exact Nat.le_refl _|(simp;done)|(simp;omega)))|(with_reducible refine Below.drew ?_)));exact hbw
 subst hr3
 obtain ⟨rfl,rfl⟩:=HS2.out.1 rfl
 obtain rfl:nx6=N:=by
  have h1:=HD6.out
  have h2:=HN.out
  have h3:=HNX.out
  rcases Nat.lt_or_ge nx6 N with h|h
  ·have:(all.drop nx6).length=0:=by rw [h1];rfl
   rw [List.length_drop] at this
   omega
  ·omega
 obtain ⟨nw,e1,e2,e3⟩:=HOK2.out.new rfl
 simp only [List.nil_append] at e1
 subst e1
 have HP2:=Lib.hid (And.intro e3 (e2 0))
 obtain ⟨an6,cn6,rfl⟩:=owns_shape hv6.on
 obtain ⟨aa6,ca6,rfl⟩:=owns_shape hv6.oa
 have hn6:=hv6.on
 have ha6:=hv6.oa
 have HL6:Hid (o2.length≤39998):=Lib.hid (by
  have h1:=HS2.out.2.2
  have h2:=HL2.out.2
  simp only [List.length_map,List.length_nil] at h1
  omega)
 have hfa:=(fun (W:World) (hb:Below W6.heap.size W6 W)=>sxFault_any (.slice none 0 0) _ _ [] o W (dfs_nilP W) (by simp) (by simp) (hon6.keep hb).at (rw_ints (owns_keep hb hoa6)) (by have:=HL2.out.1;omega) HP.out.1 HP.out.2)
 have hfb:=(fun (W:World) (hb:Below W6.heap.size W6 W)=>sxFault_any (.slice none 0 0) _ _ [] o2 W (dfs_nilP W) (by simp) (by simp) (hn6.keep hb).at (rw_ints (owns_keep hb ha6)) (by have:=HL6.out;omega) HP2.out.1 HP2.out.2)
 have HW6:=Lib.hid (And.intro hon6 hn6)
 have hap:∀ k,(Value.slice an (o.map Prod.fst).length cn).ownBlock=some k → (Value.slice an6 (o2.map Prod.fst).length cn6).ownBlock ≠ some k:=fun k hk hr=>by
  have h1:=HLN.out k hk
  have h2:=(World.ownsRow.lt hn6 k hr).1
  omega
 simp only [List.length_map] at hap
 have HAP:=Lib.hid hap
 clear hap HLN
 clear e2 e3 HOK2 st6 hv6 hon6 hoa6 hn6 ha6
 simp only [List.length_map] at hfa hfb k2 k3
 have HFA:=Lib.hid hfa
 have HFB:=Lib.hid hfb
 clear hfa hfb
 go_wp2_with fail
 try simp only [List.length_map]
 refine (HFA.out W6 (Below.refl _ _)).mono ?_
 rintro e W7 ⟨rfl,hb7⟩
 generalize hC1:((chkGo (leafIn []) o 0 []).getD (0,0)).2=C1
 have HC1:=Lib.hid hC1
 clear hC1 HFA
 replace k2:=cell_keep hb7 k2
 replace k3:=cell_keep hb7 k3
 replace s4:=Nat.lt_of_lt_of_le s4 hb7.size
 have py7:=py6.below hb7
 have j7:=py7.j
 clear k1 k4 py6
 have upW:∀ {w':World},Exc NoT W7.drew w' → Below W7.heap.size W7 w':=fun h=>(Below.refl W7.heap.size W7).drew.trans (h.toBelow.mono (by simp))
 go_wp2_with fail
 refine region_acts (C:=Exc (NoT) _) 6 [0,1,2,3,4,5,6,7,8,9,10,11,12,13] (by kernel_rfl) (by kernel_rfl) (Exc.grows _ _) (Exc.refl _ _) ?_
 iterate 8 (apply x_st rfl rfl rfl;(focus intro u hc' hf';go_simp <;> rfl);intro K hK;go_simp;apply hK;clear hK K)
 refine x_call rfl rfl rfl (Exc.grows _ _) (Exc.refl _ _) 48 (fun K hK=>?_);apply Exists.intro;refine ⟨fun w' hw'=>?_,fun w' hw' hbw=>?_⟩;(focus go_simp;rfl);refine (HFB.out _ (hb7.trans ((upW hw').mono hb7.size))).mono ?_;rintro e W8 ⟨rfl,hb8⟩;refine ⟨_,rfl,hb8,fun hx=>?_⟩;go_simp;apply hK;clear hK K
 iterate 5 (apply x_st rfl rfl rfl;(focus intro u hc' hf';go_simp <;> rfl);intro K hK;go_simp;apply hK;clear hK K)
 refine x_nil ?_
 generalize hC2:((chkGo (leafIn []) o2 0 []).getD (0,0)).2=C2
 have HC2:=Lib.hid hC2
 have hb78:=upW hx
 have py8:=py7.below hb78
 replace k2:=cell_keep hb78 k2
 replace s4:=Nat.lt_of_lt_of_le s4 hb78.size
 have hb68:=hb7.trans (hb78.mono hb7.size)
 have j8:=py8.j
 have jz:=cell_lt j8
 clear hC2 HFB k3 py7 j7 hb7 hb78 hb8 hx hw' hbw upW
 go_wp2_with fail
 have hN0:=HN0.out
 refine region_acts (C:=Exc (NoT) _) 6 [0,1,2,3,4,5,6,7,8,9,10,11,12,13] (by kernel_rfl) (by kernel_rfl) (Exc.grows _ _) (Exc.refl _ _) ?_
 iterate 12 (apply x_st rfl rfl rfl;(focus intro u hc' hf';go_simp <;> rfl);intro K hK;go_simp;apply hK;clear hK K)
 refine x_make rfl rfl rfl (Exc.grows _ _) (Exc.refl _ _) (fun b=>.pointer (some ⟨b,0,none⟩)) (fun K hK=>?_)
 apply Exists.intro
 refine ⟨fun w' hw'=>?_,fun bb w9 hw9 hb9 hbo hNb hnb=>?_⟩
 ·obtain ⟨hc',hf'⟩:=hw'.cell
  try simp only [World.size_drew] at hc' hf'
  go_simp
  rfl
 go_simp
 refine hK _ _ _ ?_
 clear hK K
 refine x_do rfl rfl rfl (Exc.grows _ _) hw9 (fun K hK=>?_)
 intro w10 hw10 hb10
 obtain ⟨m0,m1,m2⟩:=made_cell ((hb10.block bb (made_cell hbo).2.2).trans hbo)
 refine ⟨((w10.setCell ⟨bb,0,none⟩ (.string t.text)).setCell ⟨bb,1,none⟩ (.slice an (o.map Prod.fst).length cn)).setCell ⟨bb,2,none⟩ (.slice an6 (o2.map Prod.fst).length cn6),?_,⟨exc_set (exc_set (exc_set hw10 (.inl hNb) _) (.inl hNb) _) (.inl hNb) _,by simp,fun j _ hj _=>by rw [Below.heap_setCell _ _ _ _ (fun h=>hj (by simp [h])),Below.heap_setCell _ _ _ _ (fun h=>hj (by simp [h])),Below.heap_setCell _ _ _ _ (fun h=>hj (by simp [h]))]⟩,?_⟩
 ·go_simp
 go_simp
 refine hK _ _ _ ?_
 clear hK K
 refine x_nil ?_
 have hbb:W8.heap.size≤bb:=by simpa using hNb
 obtain ⟨W,hW⟩:∃ W,W=((w10.setCell ⟨bb,0,none⟩ (.string t.text)).setCell ⟨bb,1,none⟩ (.slice an (o.map Prod.fst).length cn)).setCell ⟨bb,2,none⟩ (.slice an6 (o2.map Prod.fst).length cn6):=⟨_,rfl⟩
 try simp only [List.length_map] at hW
 rw [← hW]
 have hbW:Below W8.heap.size W8 W:=by rw [hW];exact (((((Below.refl _ W8).drew.trans (hw10.toBelow.mono (by simp))).setCell hbb _).setCell hbb _).setCell hbb _)
 have e0:W.cell? ⟨bb,0,none⟩=some (.string t.text):=by rw [hW];go_simp
 have e1:W.cell? ⟨bb,1,none⟩=some (.slice an o.length cn):=by rw [hW];go_simp
 have e2:W.cell? ⟨bb,2,none⟩=some (.slice an6 o2.length cn6):=by rw [hW];go_simp
 have ef:∀ j,W.frozen? ⟨bb,j,none⟩=false:=fun j=>by rw [hW];simpa using m1 j
 have py9:=py8.below hbW
 have hbE:=py9.bel
 have ez:bb<W.heap.size:=cell_lt e0
 have hb6W:=hb68.trans (hbW.mono hb68.size)
 have hlo:=py9.lo
 have hbbw:w.heap.size+1≤bb:=by have:=py8.sz;omega
 clear hW hw10 hb10 m0 m1 m2 hw9 hb9 hbo hNb hnb py8 j8 k2 hbW py9
 cases hc1:chkGo (leafIn []) o 0 [] with
 | some p =>
  have gc:(C1 != 0)=true:=by
   have h1:=HC1.out
   rw [hc1] at h1
   simp only [Option.getD_some] at h1
   rw [← h1]
   simpa using chk_codeR _ _ _ _ hc1
  have HE:Hid (ruleL s=none):=Lib.hid (rule_none (HR.out.trans (pl_chk HQ.out hc1)))
  obtain ⟨r0,r1,r2',rf,hz,hbw⟩:=res3 hbE
  clear hc1 hbE hb6W hb68
  go_wp2
  refine bodyPost_ret (v:=.tuple #[.agg #[.string ⟨#[]⟩,.slice none 0 0,.slice none 0 0],.bool false]) (by simp [results,Tryz.results13,go_sem,r0,r1,r2',rf,hz]) rfl ?_
  rw [HE.out]
  refine ⟨_,_,rfl,nds_none _ _,nds_none _ _,(fun _ h=>by cases h),?_⟩
  (repeat (first|(with_reducible refine Below.alloc ?_ ?_ _;rotate_left;(first|omega|(simp;done)|(simp;omega)))|(with_reducible refine Below.setCell ?_ ?_ _;rotate_left;(first|exact Nat.le_refl _|(simp;done)|(simp;omega)))|(with_reducible refine Below.drew ?_)));exact hbw
 | none =>
 have gc1:C1=0:=by
  have h1:=HC1.out
  rw [hc1] at h1
  exact h1.symm
 subst gc1
 have HR2:=Lib.hid (HR.out.trans (pl_ok HQ.out hc1))
 clear HC1 hc1
 cases hc2:chkGo (leafIn []) o2 0 [] with
 | some p =>
  have gc:(C2 != 0)=true:=by
   have h1:=HC2.out
   rw [hc2] at h1
   simp only [Option.getD_some] at h1
   rw [← h1]
   simpa using chk_codeR _ _ _ _ hc2
  have HE:Hid (ruleL s=none):=Lib.hid (rule_none (HR2.out.trans (pg_bad HY.out (wh_chk HQ2.out hc2))))
  obtain ⟨r0,r1,r2',rf,hz,hbw⟩:=res3 hbE
  clear hc2 hbE hb6W hb68
  go_wp2
  refine bodyPost_ret (v:=.tuple #[.agg #[.string ⟨#[]⟩,.slice none 0 0,.slice none 0 0],.bool false]) (by simp [results,Tryz.results13,go_sem,r0,r1,r2',rf,hz]) rfl ?_
  rw [HE.out]
  refine ⟨_,_,rfl,nds_none _ _,nds_none _ _,(fun _ h=>by cases h),?_⟩
  (repeat (first|(with_reducible refine Below.alloc ?_ ?_ _;rotate_left;(first|omega|(simp;done)|(simp;omega)))|(with_reducible refine Below.setCell ?_ ?_ _;rotate_left;(first|exact Nat.le_refl _|(simp;done)|(simp;omega)))|(with_reducible refine Below.drew ?_)));exact hbw
 | none =>
 have gc2:C2=0:=by
  have h1:=HC2.out
  rw [hc2] at h1
  exact h1.symm
 subst gc2
 have hpr:=HR2.out.trans (pg_ok HY.out (wh_ok HQ2.out hc2))
 clear HC2 hc2
 obtain ⟨x,y,hk⟩:=prule_k hpr
 obtain ⟨d,hd⟩:∃ d,d=RlI.mk t.text (o.map Prod.fst) (o2.map Prod.fst):=⟨_,rfl⟩
 have hl9:=HW6.out.1.keep hb6W
 have hr9:=HW6.out.2.keep hb6W
 have hrw:=rwIs_any _ x y (.slice an (o.map Prod.fst).length cn) (.slice an6 (o2.map Prod.fst).length cn6) W hk hl9.at hr9.at
 simp only [List.length_map] at hrw hl9 hr9
 rw [← hd] at hrw hpr
 have HRW:=Lib.hid hrw
 have HPR:=Lib.hid hpr
 have HLR:=Lib.hid (And.intro hl9 hr9)
 have HD9:=Lib.hid hd
 clear hrw hpr hk hl9 hr9 hb6W hb68 hd
 go_wp2_with fail
 refine HRW.out.mono ?_
 rintro e W' ⟨rfl,hb'⟩
 have hbE':=hbE.trans (hb'.mono (by have:=hbE.size;simpa using this))
 replace e0:=cell_keep hb' e0
 replace e1:=cell_keep hb' e1
 replace e2:=cell_keep hb' e2
 replace ef:=(fun j=>(hb'.frozen (p:=⟨bb,j,none⟩) (by simpa using ez)).trans (ef j))
 have hl10:=HLR.out.1.keep hb'
 have hr10:=HLR.out.2.keep hb'
 replace ez:bb<W'.heap.size:=cell_lt e0
 have hne:¬ bb=w.heap.size:=by omega
 obtain ⟨r0,r1,r2',rf,hz,hbw⟩:=res3 hbE'
 have HLR2:=Lib.hid (And.intro hl10 hr10)
 clear hbE hbE' hb' HLR hl10 hr10 HRW
 cases hB:ruleB d with
 | false =>
  have HE:Hid (ruleL s=none):=Lib.hid (by unfold ruleL;rw [HPR.out];simp [Option.filter,hB])
  clear hB
  go_wp2
  refine bodyPost_ret (v:=.tuple #[.agg #[.string ⟨#[]⟩,.slice none 0 0,.slice none 0 0],.bool false]) (by simp [results,Tryz.results13,go_sem,r0,r1,r2',rf,hz]) rfl ?_
  rw [HE.out]
  refine ⟨_,_,rfl,nds_none _ _,nds_none _ _,(fun _ h=>by cases h),?_⟩
  (repeat (first|(with_reducible refine Below.alloc ?_ ?_ _;rotate_left;(first|omega|(simp;done)|(simp;omega)))|(with_reducible refine Below.setCell ?_ ?_ _;rotate_left;(first|exact Nat.le_refl _|(simp;done)|(simp;omega)))|(with_reducible refine Below.drew ?_)));exact hbw
 | true =>
  have HE:Hid (ruleL s=some ⟨t.text,o.map Prod.fst,o2.map Prod.fst⟩):=Lib.hid (by unfold ruleL;rw [HPR.out];simp only [Option.filter,hB,↓reduceIte];rw [HD9.out])
  clear hB
  go_wp2
  refine bodyPost_ret (v:=.tuple #[.agg #[.string t.text,.slice an o.length cn,.slice an6 o2.length cn6],.bool true]) (by simp [results,Tryz.results13,go_sem,r0,r1,r2',rf,hz]) rfl ?_
  rw [HE.out]
  have hz5:=HZ5.out
  refine ⟨_,_,rfl,?_,?_,HAP.out,?_⟩
  ·exact NdsOwn.mono (B:=bx+1) (by omega) (((HLR2.out.1.setLow (by simp;omega) _).setLow (by simp;omega) _).setLow (by simp;omega) _)
  ·exact NdsOwn.mono (B:=W5.heap.size) (by omega) (((HLR2.out.2.setLow (by simp;omega) _).setLow (by simp;omega) _).setLow (by simp;omega) _)
  ·(repeat (first|(with_reducible refine Below.alloc ?_ ?_ _;rotate_left;(first|omega|(simp;done)|(simp;omega)))|(with_reducible refine Below.setCell ?_ ?_ _;rotate_left;(first|exact Nat.le_refl _|(simp;done)|(simp;omega)))|(with_reducible refine Below.drew ?_)));exact hbw
end Go.Proofs.YtbljmfcifljkaaaGreatDoor
