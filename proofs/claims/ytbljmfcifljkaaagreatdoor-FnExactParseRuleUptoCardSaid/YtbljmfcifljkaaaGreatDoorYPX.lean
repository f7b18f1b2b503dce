/-
  The program's parseRule. Own work.
-/
import Derived.Test.YtbljmfcifljkaaaGreatDoorYGD
import Derived.Test.YtbljmfcifljkaaaGreatDoorYCC
import Derived.Test.YtbljmfcifljkaaaGreatDoorYSA
import Derived.Test.YtbljmfcifljkaaaGreatDoorYGH
set_option linter.all false
set_option maxRecDepth 100000
set_option maxHeartbeats 8000000
namespace Go.Proofs.YtbljmfcifljkaaaGreatDoor
open Go.RowKit
set_option maxRecDepth 100000
set_option maxHeartbeats 1000000
def PrPost (r:Option RlI) (w:World) (e:Ending) (w':World):Prop :=
 match r with
 | some d=>∃ vl vr,e=.returned (.tuple #[.agg #[.string d.name,vl,vr],.nilIface])∧NdsOwn w' w.heap.size vl d.left∧NdsOwn w' w.heap.size vr d.right∧(∀ k,vl.ownBlock=some k → vr.ownBlock ≠ some k)∧Below w.heap.size w w'
 | none=>∃ (nm:ByteArray) (a b:Option Addr) (n c m d:Nat) (p:Int × Int),e=.returned (.tuple #[.agg #[.string nm,.slice a n c,.slice b m d],errV p])∧Below w.heap.size w w'
theorem pr_err {s:ByteArray} {p:Int × Int} (h:tokL s=.error p):pRuleL s=none:=by unfold pRuleL;rw [h]
theorem pr_nil {s:ByteArray} (h:tokL s=.ok []):pRuleL s=none:=by unfold pRuleL;rw [h]
theorem pr_no {s:ByteArray} {t:Tk} {r:List Tk} (h:tokL s=.ok (t :: r)) (hn:¬ (t.kind=1∧isSym r 58=true)):pRuleL s=none:=by unfold pRuleL;rw [h];simp only;rw [if_neg hn]
theorem pr_yes {s:ByteArray} {t t2:Tk} {r:List Tk} (h:tokL s=.ok (t :: t2 :: r)) (hk:t.kind=1) (hn:isSym (t2 :: r) 58=true):pRuleL s=pLeft s t.text r:=by
 unfold pRuleL;rw [h];simp only;rw [if_pos ⟨hk,hn⟩];rfl
structure PzSt (w:World) (br bd:Nat) (cs:Array Value) (W:World):Prop where
 bel:Below (w.heap.size+1) (w.alloc (.cells #[.string ⟨#[]⟩,.slice none 0 0,.slice none 0 0] 32)) W
 lo:w.heap.size+1≤br
 lt:br+1≤bd
 bk:Bk W bd 32 cs
theorem PzSt.start {w w1:World} {c:Array Value} {t:TypeId} {cs:Array Value} (hb:Below (w.heap.size+1) (w.alloc (.cells #[.string ⟨#[]⟩,.slice none 0 0,.slice none 0 0] 32)) w1) :
  PzSt w w1.heap.size (w1.heap.size+1) cs ((w1.alloc (.cells c t)).alloc (.cells cs 32)):=by
 have hz:=hb.size
 simp only [World.size_alloc] at hz
 exact ⟨(hb.alloc hz _).alloc (by simp;omega) _,by omega,by omega,by
  have:=Bk.new (w1.alloc (.cells c t)) 32 cs
  simpa using this⟩
theorem PzSt.exc {w:World} {br bd:Nat} {cs:Array Value} {W W':World} (h:PzSt w br bd cs W) (hx:Exc (fun k=>k=br) W W'):PzSt w br bd cs W':=by
 have:=h.lt
 exact ⟨h.bel.trans (below_of_exc hx h.lo (by have:=h.bel.size;simpa using this)),h.lo,h.lt,h.bk.exc hx (by omega)⟩
theorem PzSt.set {w:World} {br bd:Nat} {cs:Array Value} {W:World} (h:PzSt w br bd cs W) (i:Nat) (u:Value):PzSt w br bd (cs.setIfInBounds i u) (W.setCell ⟨bd,i,none⟩ u) :=
 ⟨h.bel.setCell (by have:=h.lo;have:=h.lt;simp;omega) _,h.lo,h.lt,h.bk.set i u⟩
theorem PzSt.fr {w:World} {B br bd:Nat} {cs:Array Value} {W W':World} (h:PzSt w br bd cs W) (hF:Fr B br W W') (hB:bd<B):PzSt w br bd cs W':=by
 have:=h.lt
 have:=h.lo
 exact ⟨h.bel.trans (below_of_fr hF h.lo (by omega)),h.lo,h.lt,(hF.block bd hB (by omega)).trans h.bk⟩
theorem PzSt.below {w:World} {br bd:Nat} {cs:Array Value} {W W':World} (h:PzSt w br bd cs W) (hb:Below W.heap.size W W'):PzSt w br bd cs W' :=
 ⟨h.bel.trans (hb.mono (by have:=h.bel.size;simpa using this)),h.lo,h.lt,h.bk.keep hb⟩
theorem PzSt.cells {w:World} {br bd:Nat} {x0 x1 x2:Value} {W:World} (h:PzSt w br bd #[x0,x1,x2] W) :
  W.cell? ⟨bd,0,none⟩=some x0∧W.cell? ⟨bd,1,none⟩=some x1∧W.cell? ⟨bd,2,none⟩=some x2∧(∀ j,W.frozen? ⟨bd,j,none⟩=false)∧bd<W.heap.size:=by
 obtain ⟨h1,h2,h3⟩:=h.bk.cell
 exact ⟨h1 0,h1 1,h1 2,h2,h3⟩
theorem res3 {w W:World} (hb:Below (w.heap.size+1) (w.alloc (.cells #[.string ⟨#[]⟩,.slice none 0 0,.slice none 0 0] 32)) W) :
  W.cell? ⟨w.heap.size,0,none⟩=some (.string ⟨#[]⟩)∧W.cell? ⟨w.heap.size,1,none⟩=some (.slice none 0 0)∧W.cell? ⟨w.heap.size,2,none⟩=some (.slice none 0 0)∧(∀ j,W.frozen? ⟨w.heap.size,j,none⟩=false)∧w.heap.size<W.heap.size∧Below w.heap.size w W:=by
 refine ⟨?_,?_,?_,fun j=>?_,by have:=hb.size;simp at this;omega,(alloc_below _ _).trans (hb.mono (by omega))⟩
 ·rw [hb.cell (p:=⟨w.heap.size,0,none⟩) (by simp)];simp
 ·rw [hb.cell (p:=⟨w.heap.size,1,none⟩) (by simp)];simp
 ·rw [hb.cell (p:=⟨w.heap.size,2,none⟩) (by simp)];simp
 ·rw [hb.frozen (p:=⟨w.heap.size,j,none⟩) (by simp)];simp
theorem par_setd {B br bd:Nat} {en:Int} {W:World} {ts:List Tk} {out:Rd} {nm:ByteArray} {a1 a2:Option Addr} {n1 c1 n2 c2:Nat} {t:TypeId} (h:ParAt B br en W ts out) (hk:Bk W bd t #[.string nm,.slice a1 n1 c1,.slice a2 n2 c2]) (hd:bd<B) (hn:bd ≠ br) (i:Nat) (u:Value) :
  ParAt B br en (W.setCell ⟨bd,i,none⟩ u) ts out:=by
 obtain ⟨vt,vo,h⟩:=h
 have hE:Exc (fun k=>k=bd) W (W.setCell ⟨bd,i,none⟩ u):=exc_set (T:=fun k=>k=bd) (Exc.refl _ W) (.inr rfl) _
 have c0:=h.c0
 have c1:=h.c1
 have c2:=h.c2
 have hb:¬ br=bd:=fun e=>hn e.symm
 have hbz:br<W.heap.size:=Nat.lt_of_lt_of_le h.lt h.sz
 have ni:∀ (o:Nat) (k:Int),W.cell? ⟨bd,o,none⟩ ≠ some (.int .i64 k):=fun o k he=>by
  rw [hk.cell.1 o] at he
  match o,he with
  | 0,he=>simp at he
  | 1,he=>simp at he
  | 2,he=>simp at he
  | o+3,he=>simp at he
 refine ⟨vt,vo,h.lt,by simpa using h.sz,?_,?_,?_,fun j=>?_,?_,h.low,owns_exc hE h.own fun k hkk e=>?_,h.nil⟩
 ·rw [hE.cell.1 _ _ hbz hb];exact c0
 ·rw [hE.cell.1 _ _ hbz hb];exact c1
 ·rw [hE.cell.1 _ _ hbz hb];exact c2
 ·rw [hE.cell.2 _ _ hbz hb];exact h.fz j
 ·obtain ⟨hok,a,cap,rfl,hc,hat⟩:=h.tk
  refine ⟨hok,a,cap,rfl,hc,fun j hj=>?_⟩
  obtain ⟨b,o,rfl,hi',h0,h1,h2⟩:=hat j hj
  have hbd:¬ b=bd:=fun e=>by subst e;exact ni _ _ h0
  have hbl:b<W.heap.size:=cell_lt h0
  exact ⟨b,o,rfl,hi',(hE.cell.1 _ _ hbl hbd).trans h0,(hE.cell.1 _ _ hbl hbd).trans h1,(hE.cell.1 _ _ hbl hbd).trans h2⟩
 ·have:=(World.ownsRow.lt h.own _ hkk).1;omega
theorem par_clear {B br:Nat} {en:Int} {W:World} {ts:List Tk} {out:Rd} (h:ParAt B br en W ts out):ParAt B br en (W.setCell ⟨br,2,none⟩ (.slice none 0 0)) ts []:=by
 obtain ⟨vt,vo,h⟩:=h
 have hE:Exc (fun k=>k=br) W (W.setCell ⟨br,2,none⟩ (.slice none 0 0)):=exc_set (T:=fun k=>k=br) (Exc.refl _ W) (.inr rfl) _
 have hF:Fr B br W (W.setCell ⟨br,2,none⟩ (.slice none 0 0)):=Fr.exc h.sz hE (fun k hk=>.inl hk)
 have c0:=h.c0
 have c1:=h.c1
 have c2:=h.c2
 refine ⟨vt,.slice none 0 0,h.lt,by simpa using h.sz,?_,?_,?_,fun i=>?_,h.tk.fr hF h.low,h.low,⟨by simp,.inl ⟨rfl,rfl⟩⟩,fun _=>rfl⟩
 ·go_simp
 ·go_simp
 ·go_simp
 ·simpa using h.fz i
theorem word_any (B br:Nat) (en:Int) (ts:List Tk) (out:Rd) (w:World) (h:ParAt B br en w ts out) :
  Calls Tryz.prog 110 #[.pointer (some ⟨br,0,none⟩)] w fun e w' =>
   (∃ t r,ts=t :: r∧t.kind=1∧e=.returned (.tuple #[.string t.text,.nilIface])∧ParAt B br en w' r out∧Exc (fun k=>k=br) w w') ∨
   ((∀ t r,ts=t :: r → t.kind ≠ 1)∧∃ p,e=.returned (.tuple #[.string ⟨#[]⟩,errV p])∧Exc (fun k=>k=br) w w'):=by
 by_cases hw:∃ t r,ts=t :: r∧t.kind=1
 ·obtain ⟨t,r,rfl,hk⟩:=hw
  refine (word_yes B br en t r out w h hk).mono ?_
  rintro e w' ⟨rfl,hp,hx⟩
  exact .inl ⟨t,r,rfl,hk,rfl,hp,hx⟩
 ·have hn:∀ t r,ts=t :: r → t.kind ≠ 1:=fun t r e h=>hw ⟨t,r,e,h⟩
  refine (word_no B br en ts out w h hn).mono ?_
  rintro e w' ⟨rfl,rfl⟩
  exact .inr ⟨hn,_,rfl,Exc.refl _ _⟩
theorem need_any (B br:Nat) (en:Int) (ts:List Tk) (out:Rd) (b:UInt8) (w:World) (h:ParAt B br en w ts out) :
  Calls Tryz.prog 111 #[.pointer (some ⟨br,0,none⟩),.string ⟨#[b]⟩] w fun e w' =>
   (∃ t r,ts=t :: r∧isSym ts b=true∧e=.returned .nilIface∧ParAt B br en w' r out∧Exc (fun k=>k=br) w w') ∨
   (isSym ts b=false∧∃ p,e=.returned (errV p)∧Exc (fun k=>k=br) w w'):=by
 cases hs:isSym ts b with
 | true =>
  cases ts with
  | nil=>cases hs
  | cons t r =>
   refine (need_yes B br en t r out _ w h (by rw [isSymS_eq];exact hs)).mono ?_
   rintro e w' ⟨rfl,hp,hx⟩
   exact .inl ⟨t,r,rfl,rfl,rfl,hp,hx⟩
 | false =>
  refine (need_no B br en ts out _ w h (by rw [isSymS_eq];exact hs)).mono ?_
  rintro e w' ⟨rfl,rfl⟩
  exact .inr ⟨rfl,_,rfl,Exc.refl _ _⟩
theorem dfs_nilP (w:World):DfsAt w (.slice none 0 0) []:=⟨none,0,rfl,Nat.le_refl _,fun i hi=>by simp at hi⟩
theorem nds_fr {w w':World} {B B' br:Nat} {v:Value} {ns:List Nd} (h:NdsOwn w B v ns) (hF:Fr B' br w w') (hB:B'=w.heap.size) (hb:br<B):NdsOwn w' B v ns:=by
 subst hB
 exact owns_exc (T:=fun k=>k=br) ⟨hF.os,hF.tape,hF.output,hF.size,fun k hk hn=>hF.block k hk hn⟩ h (fun k hk e=>by have:=(World.ownsRow.lt h k hk).1;omega)
theorem pl_bad {s nm:ByteArray} {r r':List Tk} {o:Rd} (h:pTerm r.length r []=⟨true,r',o⟩):pLeft s nm r=none:=by unfold pLeft;rw [h]
theorem pl_chk {s nm:ByteArray} {r r':List Tk} {o:Rd} {p:Int × Int} (h:pTerm r.length r []=⟨false,r',o⟩) (hc:chkGo (leafIn []) o 0 []=some p):pLeft s nm r=none:=by unfold pLeft;rw [h];simp only;rw [hc]
theorem pl_ok {s nm:ByteArray} {r r':List Tk} {o:Rd} (h:pTerm r.length r []=⟨false,r',o⟩) (hc:chkGo (leafIn []) o 0 []=none):pLeft s nm r=pRight s nm (o.map Prod.fst) r':=by unfold pLeft;rw [h];simp only;rw [hc]
theorem pg_no {s nm:ByteArray} {l:List Nd} {r:List Tk} (h:isSym r 61=false):pRight s nm l r=none:=by unfold pRight;rw [if_neg (by simp [h])]
theorem pg_bad {s nm:ByteArray} {l:List Nd} {t:Tk} {r:List Tk} {p:Int × Int} (h:isSym (t :: r) 61=true) (hw:wholeL [] s.size r=.error p):pRight s nm l (t :: r)=none:=by
 unfold pRight;rw [if_pos h,List.tail_cons,hw]
theorem pg_ok {s nm:ByteArray} {l ns:List Nd} {t:Tk} {r:List Tk} (h:isSym (t :: r) 61=true) (hw:wholeL [] s.size r=.ok ns):pRight s nm l (t :: r)=some ⟨nm,l,ns⟩:=by
 unfold pRight;rw [if_pos h,List.tail_cons,hw]
end Go.Proofs.YtbljmfcifljkaaaGreatDoor
/-
  The program's parseRule, walked. Own work.
-/
namespace Go.Proofs.YtbljmfcifljkaaaGreatDoor
open Go.RowKit
set_option maxRecDepth 100000
set_option maxHeartbeats 1000000
theorem parseRule_any (s:ByteArray) (w:World) (hs:s.size≤4194304) :
  Calls Tryz.prog 50 #[.string s] w (PrPost (pRuleL s) w):=by
 have htk:=Lib.hid (tokenize_any s (w.alloc (.cells #[.string ⟨#[]⟩,.slice none 0 0,.slice none 0 0] 32)) hs)
 go_enter Tryz.func50,Tryz.ntmps50
 go_wp2_with fail
 refine htk.out.mono ?_
 intro e w1 hpost
 clear htk
 cases ht:tokL s with
 | error p =>
  rw [ht] at hpost
  obtain ⟨rfl,hb1⟩:=hpost
  obtain ⟨r0,r1,r2,rf,hz,hbw⟩:=res3 (hb1.mono (by simp))
  have HE:=Lib.hid (pr_err ht)
  clear ht hb1
  simp only [errV]
  go_wp2
  refine bodyPost_ret (v:=.tuple #[.agg #[.string ⟨#[]⟩,.slice none 0 0,.slice none 0 0],errV p]) (by simp [results,Tryz.results50,go_sem,errV,r0,r1,r2,rf,hz]) rfl ?_
  rw [HE.out]
  refine ⟨_,_,_,_,_,_,_,_,rfl,?_⟩
  (repeat (first|(with_reducible refine Below.alloc ?_ ?_ _;rotate_left;(first|omega|(simp;done)|(simp;omega)))|(with_reducible refine Below.setCell ?_ ?_ _;rotate_left;(first|exact Nat.le_refl _|(simp;done)|(simp;omega)))|(with_reducible refine Below.drew ?_)));exact hbw
 | ok ts =>
 obtain ⟨hok,htl,_⟩:=tokL_ok ht
 rw [ht] at hpost
 obtain ⟨v1,rfl,ho1,hb1⟩:=hpost
 obtain ⟨a1,c1,rfl⟩:=owns_shape ho1
 have st0:=PzSt.start (c:=#[.slice a1 ts.length c1,.int .i64 s.size,.slice none 0 0]) (t:=161) (cs:=#[.string ⟨#[]⟩,.slice none 0 0,.slice none 0 0]) (hb1.mono (by simp))
 have pa0:=par_start (en:=s.size) ho1 hok ((w1.alloc (.cells #[.slice a1 ts.length c1,.int .i64 s.size,.slice none 0 0] 161)).alloc (.cells #[.string ⟨#[]⟩,.slice none 0 0,.slice none 0 0] 32)) ((Below.refl _ _).alloc (by simp) _)
 have HT:=Lib.hid ht
 clear ht ho1 hb1
 go_wp2_with fail
 obtain ⟨br,hbr⟩:∃ br,br=w1.heap.size:=⟨_,rfl⟩
 obtain ⟨bd,hbd⟩:∃ bd,bd=w1.heap.size+1:=⟨_,rfl⟩
 rw [← hbd] at st0 ⊢
 rw [← hbr] at st0 pa0 ⊢
 generalize ((w1.alloc (.cells #[.slice a1 ts.length c1,.int .i64 s.size,.slice none 0 0] 161)).alloc (.cells #[.string ⟨#[]⟩,.slice none 0 0,.slice none 0 0] 32))=W0 at st0 pa0 ⊢
 have hlt:br+1≤bd:=st0.lt
 have hne:¬ bd=br:=by omega
 have hne':¬ br=bd:=by omega
 clear hbr hbd
 refine (word_any (br+1) br s.size ts [] _ pa0).mono ?_
 rintro e W1 (⟨t,r,rfl,hk,rfl,pa1,hx1⟩|⟨hn,p,rfl,hx1⟩)
 rotate_left
 ·obtain ⟨r0,r1,r2,rf,hz,hbw⟩:=res3 (st0.exc hx1).bel
  obtain ⟨d0,d1,d2,df,dz⟩:=(st0.exc hx1).cells
  have hrd:¬ bd=w.heap.size:=by have:=st0.lo;omega
  have hbw2:=(res3 ((st0.exc hx1).set 0 (.string ⟨#[]⟩)).bel).2.2.2.2.2
  have HE:Hid (pRuleL s=none):=Lib.hid (by
   cases ts with
   | nil=>exact pr_nil HT.out
   | cons t r=>exact pr_no HT.out (fun h=>hn t r rfl h.1))
  clear st0 pa0 hx1
  simp only [errV]
  go_wp2
  refine bodyPost_ret (v:=.tuple #[.agg #[.string ⟨#[]⟩,.slice none 0 0,.slice none 0 0],errV p]) (by simp [results,Tryz.results50,go_sem,errV,r0,r1,r2,rf,hz,hrd]) rfl ?_
  rw [HE.out]
  refine ⟨_,_,_,_,_,_,_,_,rfl,?_⟩
  (repeat (first|(with_reducible refine Below.alloc ?_ ?_ _;rotate_left;(first|omega|(simp;done)|(simp;omega)))|(with_reducible refine Below.setCell ?_ ?_ _;rotate_left;(first|exact Nat.le_refl _|(simp;done)|(simp;omega)))|(with_reducible refine Below.drew ?_)));exact hbw2
 have st1:=st0.exc hx1
 obtain ⟨d0,d1,d2,df,dz⟩:=st1.cells
 have st2:PzSt w br bd #[.string t.text,.slice none 0 0,.slice none 0 0] (W1.setCell ⟨bd,0,none⟩ (.string t.text)):=st1.set 0 _
 have pa2:=par_other pa1 (exc_set (T:=fun k=>k=bd) (Exc.refl _ _) (.inr rfl) (a:=⟨bd,0,none⟩) (.string t.text)) (fun k hk=>by omega)
 clear st0 st1 pa0 pa1 hx1
 go_wp2_with fail
 clear d0 d1 d2 df dz
 generalize (W1.setCell ⟨bd,0,none⟩ (.string t.text))=W2 at st2 pa2 ⊢
 refine (need_any (br+1) br s.size r [] 58 _ pa2).mono ?_
 rintro e W3 (⟨t2,r2,rfl,hs2,rfl,pa3,hx3⟩|⟨hs2,p,rfl,hx3⟩)
 rotate_left
 ·obtain ⟨r0,r1,r2,rf,hz,hbw⟩:=res3 (st2.exc hx3).bel
  have HE:Hid (pRuleL s=none):=Lib.hid (pr_no HT.out (fun h=>by rw [hs2] at h;exact absurd h.2 (by simp)))
  clear st2 pa2 hx3
  simp only [errV]
  go_wp2
  refine bodyPost_ret (v:=.tuple #[.agg #[.string ⟨#[]⟩,.slice none 0 0,.slice none 0 0],errV p]) (by simp [results,Tryz.results50,go_sem,errV,r0,r1,r2,rf,hz]) rfl ?_
  rw [HE.out]
  refine ⟨_,_,_,_,_,_,_,_,rfl,?_⟩
  (repeat (first|(with_reducible refine Below.alloc ?_ ?_ _;rotate_left;(first|omega|(simp;done)|(simp;omega)))|(with_reducible refine Below.setCell ?_ ?_ _;rotate_left;(first|exact Nat.le_refl _|(simp;done)|(simp;omega)))|(with_reducible refine Below.drew ?_)));exact hbw
 have HR:=Lib.hid (pr_yes HT.out hk hs2)
 have hrl:r2.length≤40000:=by simp only [List.length_cons] at htl;omega
 have st3:=st2.exc hx3
 have hok2:=hok.tail.tail
 have dz3:=st3.cells.2.2.2.2
 have pa4:=par_raise pa3 (B':=W3.heap.size) (by omega) (Nat.le_refl _)
 have HOK:=Lib.hid ((p_ok r2.length).2.2.2.1 r2 [] hok2)
 clear st2 pa2 pa3 hx3 HT hs2 hk hok hok2 htl
 go_wp2_with fail
 refine (term_any W3.heap.size br s.size r2.length r2 [] W3 (Nat.le_refl _) (by simpa using hrl) pa4).mono ?_
 intro e W4 hpp
 obtain ⟨⟨bad,rest,o⟩,hq⟩:∃ q,pTerm r2.length r2 []=q:=⟨_,rfl⟩
 rw [hq] at hpp HOK
 obtain ⟨pa5,hF5,hl5,hs5,rfl⟩:=hpp
 simp only [List.length_nil,Nat.zero_add] at hl5 hs5
 have st4:=st3.fr hF5 dz3
 have hz34:=hF5.size
 clear pa4 st3 hF5
 cases bad with
 | true =>
  rw [show resV s.size ⟨true,rest,o⟩=errV (posAt rest s.size,4) from rfl]
  obtain ⟨r0,r1,r2',rf,hz,hbw⟩:=res3 st4.bel
  have HE:Hid (pRuleL s=none):=Lib.hid (HR.out.trans (pl_bad hq))
  clear st4 pa5
  simp only [errV]
  go_wp2
  refine bodyPost_ret (v:=.tuple #[.agg #[.string ⟨#[]⟩,.slice none 0 0,.slice none 0 0],errV (posAt rest s.size,4)]) (by simp [results,Tryz.results50,go_sem,errV,r0,r1,r2',rf,hz]) rfl ?_
  rw [HE.out]
  refine ⟨_,_,_,_,_,_,_,_,rfl,?_⟩
  (repeat (first|(with_reducible refine Below.alloc ?_ ?_ _;rotate_left;(first|omega|(simp;done)|(simp;omega)))|(with_reducible refine Below.setCell ?_ ?_ _;rotate_left;(first|exact Nat.le_refl _|(simp;done)|(simp;omega)))|(with_reducible refine Below.drew ?_)));exact hbw
 | false =>
 rw [show resV s.size ⟨false,rest,o⟩=.nilIface from rfl]
 obtain ⟨vt,vo,hv⟩:=id pa5
 have k2:=hv.c2
 have hrd:=rds_own hv.own
 obtain ⟨ao,co,rfl⟩:=owns_shape hv.own
 clear hv
 obtain ⟨nw,e1,e2,e3⟩:=HOK.out.new rfl
 simp only [List.nil_append] at e1
 subst e1
 have hchk:=checked_any (.slice none 0 0) (.slice ao o.length co) [] o W4 (dfs_nilP _) (by simp) (by simp) (by simp) hrd (by omega) e3 (e2 0)
 rw [chkR_good (L:=[]) rfl] at hchk
 have HCK:=Lib.hid hchk
 have hbr4:br<W4.heap.size:=cell_lt k2
 clear hchk hrd e2 e3 HOK
 go_wp2_with fail
 refine HCK.out.mono ?_
 intro e W5 hpost
 clear HCK
 cases hc:chkGo (leafIn []) o 0 [] with
 | some p =>
  have hcr:chkR (leafIn []) o=.error p:=by unfold chkR;rw [hc]
  rw [hcr] at hpost
  obtain ⟨rfl,hb5⟩:=hpost
  have st5:=st4.below hb5
  obtain ⟨r0,r1,r2',rf,hz,hbw⟩:=res3 st5.bel
  obtain ⟨d0,d1,d2,df,dz⟩:=st5.cells
  have hrd:¬ bd=w.heap.size:=by have:=st5.lo;omega
  have hbw2:=(res3 (st5.set 1 (.slice none 0 0)).bel).2.2.2.2.2
  have HE:Hid (pRuleL s=none):=Lib.hid (HR.out.trans (pl_chk hq hc))
  clear st4 st5 pa5 hb5 k2
  simp only [errV]
  go_wp2
  refine bodyPost_ret (v:=.tuple #[.agg #[.string ⟨#[]⟩,.slice none 0 0,.slice none 0 0],errV p]) (by simp [results,Tryz.results50,go_sem,errV,r0,r1,r2',rf,hz]) rfl ?_
  rw [HE.out]
  refine ⟨_,_,_,_,_,_,_,_,rfl,?_⟩
  (repeat (first|(with_reducible refine Below.alloc ?_ ?_ _;rotate_left;(first|omega|(simp;done)|(simp;omega)))|(with_reducible refine Below.setCell ?_ ?_ _;rotate_left;(first|exact Nat.le_refl _|(simp;done)|(simp;omega)))|(with_reducible refine Below.drew ?_)));exact hbw2
 | none =>
 have hcr:chkR (leafIn []) o=.ok (o.map Prod.fst):=by unfold chkR;rw [hc]
 rw [hcr] at hpost
 obtain ⟨vb,rfl,hob,hb5⟩:=hpost
 have HR2:=Lib.hid (HR.out.trans (pl_ok hq hc))
 clear hcr hc hq HR
 generalize hol:o.map Prod.fst=l at hob HR2
 obtain ⟨ab,cb,rfl⟩:=hob.slice
 have st5:=st4.below hb5
 have pa6:=parAt_below pa5 hb5
 obtain ⟨d0,d1,d2,df,dz⟩:=st5.cells
 have st6:PzSt w br bd #[.string t.text,.slice ab l.length cb,.slice none 0 0] (W5.setCell ⟨bd,1,none⟩ (.slice ab l.length cb)):=st5.set 1 _
 have pa7:=par_setd pa6 st5.bk (by omega) hne 1 (.slice ab l.length cb)
 have dz4:=st4.cells.2.2.2.2
 have hob6:=hob.setLow (a:=⟨bd,1,none⟩) dz4 (.slice ab l.length cb)
 clear st4 st5 pa5 pa6 hb5 k2 hob
 go_wp2_with fail
 clear d0 d1 d2 df dz
 generalize (W5.setCell ⟨bd,1,none⟩ (.slice ab l.length cb))=W6 at st6 pa7 hob6 ⊢
 refine (need_any W3.heap.size br s.size rest o 61 _ pa7).mono ?_
 rintro e W7 (⟨t3,r3,rfl,hs3,rfl,pa8,hx7⟩|⟨hs3,p,rfl,hx7⟩)
 rotate_left
 ·obtain ⟨r0,r1,r2',rf,hz,hbw⟩:=res3 (st6.exc hx7).bel
  have HE:Hid (pRuleL s=none):=Lib.hid (HR2.out.trans (pg_no hs3))
  clear st6 pa7 hx7 hob6
  simp only [errV]
  go_wp2
  refine bodyPost_ret (v:=.tuple #[.agg #[.string ⟨#[]⟩,.slice none 0 0,.slice none 0 0],errV p]) (by simp [results,Tryz.results50,go_sem,errV,r0,r1,r2',rf,hz]) rfl ?_
  rw [HE.out]
  refine ⟨_,_,_,_,_,_,_,_,rfl,?_⟩
  (repeat (first|(with_reducible refine Below.alloc ?_ ?_ _;rotate_left;(first|omega|(simp;done)|(simp;omega)))|(with_reducible refine Below.setCell ?_ ?_ _;rotate_left;(first|exact Nat.le_refl _|(simp;done)|(simp;omega)))|(with_reducible refine Below.drew ?_)));exact hbw
 have st7:=st6.exc hx7
 have hob7:NdsOwn W7 W4.heap.size (.slice ab l.length cb) l:=owns_exc hx7 hob6 (fun k hk e=>by have:=(World.ownsRow.lt hob6 k hk).1;omega)
 obtain ⟨vt8,vo8,hv8⟩:=id pa8
 have k2:=hv8.c2
 have kf:=hv8.fz
 have pa9:=par_clear pa8
 have st9:=st7.exc (exc_set (T:=fun k=>k=br) (Exc.refl _ W7) (.inr rfl) (a:=⟨br,2,none⟩) (.slice none 0 0))
 have hob9:=hob7.setLow (a:=⟨br,2,none⟩) hbr4 (.slice none 0 0)
 have hlw:bd<W7.heap.size:=st7.cells.2.2.2.2
 clear st6 st7 pa7 pa8 hx7 hob6 hob7 hv8
 go_wp2_with fail
 clear k2 kf
 generalize hW9:(W7.setCell ⟨br,2,none⟩ (.slice none 0 0))=W9 at st9 pa9 hob9 ⊢
 have hlw9:bd<W9.heap.size:=by rw [← hW9];simpa using hlw
 clear hW9 hlw
 simp only [List.length_cons] at hs5 hl5
 refine (whole_any W3.heap.size br s.size (.slice none 0 0) [] r3 W9 pa9 (by omega) rfl (fun _ _=>dfs_nilP _)).mono ?_
 intro e W10 hpost
 cases hwl:wholeL [] s.size r3 with
 | error p =>
  rw [hwl] at hpost
  obtain ⟨rfl,hF⟩:=hpost
  have st10:=st9.fr hF hlw9
  obtain ⟨r0,r1,r2',rf,hz,hbw⟩:=res3 st10.bel
  obtain ⟨d0,d1,d2,df,dz⟩:=st10.cells
  have hbw2:=(res3 (st10.set 2 (.slice none 0 0)).bel).2.2.2.2.2
  have hrd:¬ bd=w.heap.size:=by have:=st10.lo;omega
  have HE:Hid (pRuleL s=none):=Lib.hid (HR2.out.trans (pg_bad hs3 hwl))
  clear st9 st10 pa9 hF hob9
  simp only [errV]
  go_wp2
  refine bodyPost_ret (v:=.tuple #[.agg #[.string t.text,.slice ab l.length cb,.slice none 0 0],errV p]) (by simp [results,Tryz.results50,go_sem,errV,r0,r1,r2',rf,hz]) rfl ?_
  rw [HE.out]
  refine ⟨_,_,_,_,_,_,_,_,rfl,?_⟩
  (repeat (first|(with_reducible refine Below.alloc ?_ ?_ _;rotate_left;(first|omega|(simp;done)|(simp;omega)))|(with_reducible refine Below.setCell ?_ ?_ _;rotate_left;(first|exact Nat.le_refl _|(simp;done)|(simp;omega)))|(with_reducible refine Below.drew ?_)));exact hbw2
 | ok ns =>
  rw [hwl] at hpost
  obtain ⟨vr,rfl,hor,hF⟩:=hpost
  obtain ⟨ar,cr,rfl⟩:=hor.slice
  have st10:=st9.fr hF hlw9
  have hol10:=nds_fr hob9 hF rfl hbr4
  obtain ⟨r0,r1,r2',rf,hz,hbw⟩:=res3 st10.bel
  obtain ⟨d0,d1,d2,df,dz⟩:=st10.cells
  have hbw2:=(res3 (st10.set 2 (.slice ar ns.length cr)).bel).2.2.2.2.2
  have hrd:¬ bd=w.heap.size:=by have:=st10.lo;omega
  have hlo:=st10.lo
  have HE:Hid (pRuleL s=some ⟨t.text,l,ns⟩):=Lib.hid (HR2.out.trans (pg_ok hs3 hwl))
  have HAP:=Lib.hid (show ∀ k,(Value.slice ab l.length cb).ownBlock=some k → (Value.slice ar ns.length cr).ownBlock ≠ some k from fun k hk hr=>by
   have h1:=(World.ownsRow.lt hob9 k hk).2
   have h2:=(World.ownsRow.lt hor k hr).1
   omega)
  have HW:=Lib.hid (And.intro hol10 hor)
  clear st9 st10 pa9 hF hob9 hol10 hor
  go_wp2
  refine bodyPost_ret (v:=.tuple #[.agg #[.string t.text,.slice ab l.length cb,.slice ar ns.length cr],.nilIface]) (by simp [results,Tryz.results50,go_sem,r0,r1,r2',rf,hz]) rfl ?_
  rw [HE.out]
  refine ⟨_,_,rfl,?_,?_,HAP.out,?_⟩
  ·exact NdsOwn.mono (B:=W4.heap.size) (by omega) ((((HW.out.1.setLow (by simp;omega) _).setLow (by simp;omega) _).setLow (by simp;omega) _).setLow (by simp;omega) _)
  ·exact NdsOwn.mono (B:=W9.heap.size) (by omega) ((((HW.out.2.setLow (by simp;omega) _).setLow (by simp;omega) _).setLow (by simp;omega) _).setLow (by simp;omega) _)
  ·(repeat (first|(with_reducible refine Below.alloc ?_ ?_ _;rotate_left;(first|omega|(simp;done)|(simp;omega)))|(with_reducible refine Below.setCell ?_ ?_ _;rotate_left;(first|exact Nat.le_refl _|(simp;done)|(simp;omega)))|(with_reducible refine Below.drew ?_)));exact hbw
end Go.Proofs.YtbljmfcifljkaaaGreatDoor
/-
  The program's ParseRule. Own work.
-/
namespace Go.Proofs.YtbljmfcifljkaaaGreatDoor
open Go.RowKit
set_option maxRecDepth 100000
set_option maxHeartbeats 1000000
def rl0:RlI:=⟨⟨#[]⟩,[],[]⟩
def RuPost (r:Option RlI) (w:World) (e:Ending) (w':World):Prop :=
 ∃ vl vr,e=.returned (.tuple #[.agg #[.string (r.getD rl0).name,vl,vr],.bool r.isSome])∧NdsOwn w' w.heap.size vl (r.getD rl0).left∧NdsOwn w' w.heap.size vr (r.getD rl0).right∧(∀ k,vl.ownBlock=some k → vr.ownBlock ≠ some k)∧Below w.heap.size w w'
theorem prule_k {s:ByteArray} {r:RlI} (h:pRuleL s=some r):∃ x y,RlK r x y:=by
 have hnm:∀ {ns:List Nd} {x:W2},typedL (leafIn []) ns=some x → ∀ d ∈ ns,d.name.size≤1048576:=fun {ns x} hx d hd=>by
  have:=typedL_names (L:=[]) (fun x hx=>absurd hx (by simp)) hx d hd
  omega
 unfold pRuleL at h
 cases ht:tokL s with
 | error p=>rw [ht] at h;cases h
 | ok ts =>
  obtain ⟨hok,_,_⟩:=tokL_ok ht
  rw [ht] at h
  match ts,hok,h with
  | t :: r1,hok,h =>
   simp only at h
   split at h
   ·rename_i hks
    unfold pLeft at h
    have hok1:TksOk r1.tail:=by cases r1 with
     | nil=>exact hok.tail
     | cons a b=>exact hok.tail.tail
    have HR:=(p_ok r1.tail.length).2.2.2.1 r1.tail [] hok1
    cases hq:pTerm r1.tail.length r1.tail [] with
    | mk bad rest o =>
     rw [hq] at h HR
     cases bad with
     | true=>cases h
     | false =>
      simp only at h
      cases hc:chkGo (leafIn []) o 0 [] with
      | some p=>rw [hc] at h;cases h
      | none =>
       rw [hc] at h
       obtain ⟨nw,e1,e2,e3⟩:=HR.new rfl
       simp only [List.nil_append] at e1
       subst e1
       obtain ⟨x,hx⟩:=chk_type hc (e2 0) e3
       unfold pRight at h
       simp only at h
       split at h
       ·obtain ⟨n,hn⟩:=HR.suf
        have hok2:TksOk rest.tail:=by
         simp only at hn
         have:TksOk rest:=by rw [hn];exact hok1.drop n
         cases rest with
         | nil=>exact this
         | cons a b=>exact this.tail
        cases hw:wholeL [] s.size rest.tail with
        | error p=>rw [hw] at h;cases h
        | ok ns =>
         rw [hw] at h
         obtain ⟨y,hy⟩:=whole_typed hok2 hw
         cases h
         exact ⟨x,y,hx,hy,hnm hx,hnm hy,(Nat.le_trans hok.head.size (by decide))⟩
       ·cases h
   ·cases h
theorem parseRuleI_any (s:ByteArray) (w:World) (hs:s.size≤4194304) :
  Calls Tryz.prog 14 #[.string s] w (RuPost (ruleL s) w):=by
 have hpr:=Lib.hid (parseRule_any s (w.alloc (.cells #[.string ⟨#[]⟩,.slice none 0 0,.slice none 0 0] 32)) hs)
 go_enter Tryz.func14,Tryz.ntmps14
 go_wp2_with fail
 refine hpr.out.mono ?_
 intro e w1 hpost
 clear hpr
 cases hp:pRuleL s with
 | none =>
  rw [hp] at hpost
  obtain ⟨nm,a,b,n,c,m,d,p,rfl,hb1⟩:=hpost
  have hb1':Below (w.heap.size+1) (w.alloc (.cells #[.string ⟨#[]⟩,.slice none 0 0,.slice none 0 0] 32)) w1:=hb1.mono (by simp)
  obtain ⟨r0,r1,r2,rf,hz,hbw⟩:=res3 hb1'
  have HE:Hid (ruleL s=none):=Lib.hid (by unfold ruleL;rw [hp];rfl)
  clear hp hb1 hb1'
  simp only [errV]
  go_wp2
  refine bodyPost_ret (v:=.tuple #[.agg #[.string ⟨#[]⟩,.slice none 0 0,.slice none 0 0],.bool false]) (by simp [results,Tryz.results14,go_sem,r0,r1,r2,rf,hz]) rfl ?_
  rw [HE.out]
  refine ⟨_,_,rfl,nds_none _ _,nds_none _ _,(fun _ h=>by cases h),?_⟩
  (repeat (first|(with_reducible refine Below.alloc ?_ ?_ _;rotate_left;(first|omega|(simp;done)|(simp;omega)))|(with_reducible refine Below.setCell ?_ ?_ _;rotate_left;(first|exact Nat.le_refl _|(simp;done)|(simp;omega)))|(with_reducible refine Below.drew ?_)));exact hbw
 | some d =>
  obtain ⟨x,y,hk⟩:=prule_k hp
  rw [hp] at hpost
  obtain ⟨vl,vr,rfl,hl1,hr1,hap,hb1⟩:=hpost
  obtain ⟨al,cl,rfl⟩:=hl1.slice
  obtain ⟨ar,cr,rfl⟩:=hr1.slice
  have hb1':Below (w.heap.size+1) (w.alloc (.cells #[.string ⟨#[]⟩,.slice none 0 0,.slice none 0 0] 32)) w1:=hb1.mono (by simp)
  have hA:=alloc_below w1 (.cells #[.string d.name,.slice al d.left.length cl,.slice ar d.right.length cr] 32)
  have hir:=Lib.hid (isRule_any d x y (.slice al d.left.length cl) (.slice ar d.right.length cr) (w1.alloc (.cells #[.string d.name,.slice al d.left.length cl,.slice ar d.right.length cr] 32)) hk (hl1.at.keep hA) (hr1.at.keep hA))
  have HE:Hid (ruleL s=if ruleB d=true then some d else none):=Lib.hid (by unfold ruleL;rw [hp];simp only [Option.filter])
  have kr:=Bk.new w1 32 #[.string d.name,.slice al d.left.length cl,.slice ar d.right.length cr]
  have hz1:=hb1'.size
  simp only [World.size_alloc] at hz1
  clear hp hk
  have HAP:=Lib.hid hap
  clear hap
  go_wp2_with fail
  refine hir.out.mono ?_
  rintro e w2 ⟨rfl,hb2⟩
  clear hir
  have hb3:=hb1'.trans ((hA.trans (hb2.mono hA.size)).mono (by omega))
  obtain ⟨r0,r1,r2,rf,hz,hbw⟩:=res3 hb3
  obtain ⟨k0,kf,kz⟩:=(kr.keep hb2).cell
  have k1:=k0 1
  have k2:=k0 2
  have k0:=k0 0
  simp only [List.getElem?_toArray,List.getElem?_cons_zero,List.getElem?_cons_succ] at k0 k1 k2
  have hne:¬ w1.heap.size=w.heap.size:=by omega
  have hne':¬ w.heap.size=w1.heap.size:=by omega
  have hl2:=hl1.keep (hA.trans (hb2.mono hA.size))
  have hr2:=hr1.keep (hA.trans (hb2.mono hA.size))
  cases hB:ruleB d with
  | true =>
   rw [hB] at HE
   have HE':Hid (ruleL s=some d):=Lib.hid (by rw [HE.out];rfl)
   have HW:=Lib.hid (And.intro hl2 hr2)
   clear hB HE hl1 hr1 hb1 hb1' hA kr hb2 hb3 hl2 hr2
   go_wp2
   refine bodyPost_ret (v:=.tuple #[.agg #[.string d.name,.slice al d.left.length cl,.slice ar d.right.length cr],.bool true]) (by simp [results,Tryz.results14,go_sem,r0,r1,r2,rf,hz]) rfl ?_
   rw [HE'.out]
   refine ⟨_,_,rfl,?_,?_,HAP.out,?_⟩
   ·exact NdsOwn.mono (B:=w.heap.size+1) (by omega) ((((HW.out.1.mono (by simp)).setLow (by simp) _).setLow (by simp) _).setLow (by simp) _)
   ·exact NdsOwn.mono (B:=w.heap.size+1) (by omega) ((((HW.out.2.mono (by simp)).setLow (by simp) _).setLow (by simp) _).setLow (by simp) _)
   ·(repeat (first|(with_reducible refine Below.alloc ?_ ?_ _;rotate_left;(first|omega|(simp;done)|(simp;omega)))|(with_reducible refine Below.setCell ?_ ?_ _;rotate_left;(first|exact Nat.le_refl _|(simp;done)|(simp;omega)))|(with_reducible refine Below.drew ?_)));exact hbw
  | false =>
   rw [hB] at HE
   have HE':Hid (ruleL s=none):=Lib.hid (by rw [HE.out];rfl)
   clear hB HE hl1 hr1 hb1 hb1' hA kr hb2 hb3 hl2 hr2
   go_wp2
   refine bodyPost_ret (v:=.tuple #[.agg #[.string ⟨#[]⟩,.slice none 0 0,.slice none 0 0],.bool false]) (by simp [results,Tryz.results14,go_sem,r0,r1,r2,rf,hz]) rfl ?_
   rw [HE'.out]
   refine ⟨_,_,rfl,nds_none _ _,nds_none _ _,(fun _ h=>by cases h),?_⟩
   (repeat (first|(with_reducible refine Below.alloc ?_ ?_ _;rotate_left;(first|omega|(simp;done)|(simp;omega)))|(with_reducible refine Below.setCell ?_ ?_ _;rotate_left;(first|exact Nat.le_refl _|(simp;done)|(simp;omega)))|(with_reducible refine Below.drew ?_)));exact hbw
end Go.Proofs.YtbljmfcifljkaaaGreatDoor
