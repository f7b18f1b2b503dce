/-
  The walk of checked: the nodes that have been read, typed one by one. Own work.
-/
import Derived.Test.YtbljmfcifljkaaaGreatDoorYBB
import Derived.Test.YtbljmfcifljkaaaGreatDoorYAA
import Derived.Test.YtbljmfcifljkaaaGreatDoorYE
import Derived.Test.YtbljmfcifljkaaaGreatDoorYA
import Derived.Test.YtbljmfcifljkaaaGreatDoorYG
set_option linter.all false
set_option maxRecDepth 100000
set_option maxHeartbeats 8000000
namespace Go.Proofs.YtbljmfcifljkaaaGreatDoor
open Go.RowKit
def RdAt (w:World) (x:Nd × Int) (b o:Nat):Prop :=
 w.cell? ⟨b,o,none⟩=some (.int .i64 x.1.kind)∧w.cell? ⟨b,o+1,none⟩=some (.int .i64 x.1.value)∧w.cell? ⟨b,o+2,none⟩=some (.string x.1.name)∧w.cell? ⟨b,o+3,none⟩=some (.int .i64 x.2)
def RdsAt (w:World) (v:Value) (rds:Rd):Prop:=SlAt 4 v rds.length fun i b o=>∃ h:i<rds.length,RdAt w rds[i] b o
theorem RdAt.keep {w w':World} (hb:Below w.heap.size w w') {x:Nd × Int} {b o:Nat} (h:RdAt w x b o):RdAt w' x b o:=⟨cell_keep hb h.1,cell_keep hb h.2.1,cell_keep hb h.2.2.1,cell_keep hb h.2.2.2⟩
theorem RdsAt.keep {w w':World} (hb:Below w.heap.size w w') {v:Value} {rds:Rd} (h:RdsAt w v rds):RdsAt w' v rds:=SlAt.mono h fun _ _ _ ⟨hi,r⟩=>⟨hi,r.keep hb⟩
theorem rds_own {w:World} {B:Nat} {v:Value} {rds:Rd} (h:w.ownsRow B 250 4 v rds.length (rds.flatMap rdCells)):RdsAt w v rds:=by
 refine owns_slat h _ fun i b o hi hc=>⟨hi,?_⟩
 have g:∀ j,j<4 → w.cell? ⟨b,o+j,none⟩=(rdCells rds[i])[j]?:=fun j hj=>(hc j hj).trans (flat_get rdCells_len rds i j hi hj)
 exact ⟨g 0 (by omega),g 1 (by omega),g 2 (by omega),g 3 (by omega)⟩
structure CkSt (leaf:Nd → Option W2) (rds:Rd) (w2 wr:World) (tb:Nat) (vs:Value) (k:Nat) (st:List W2):Prop where
 bel:Below w2.heap.size w2 wr
 lo:w2.heap.size<tb
 sz:tb<wr.heap.size
 nds:∃ vn,wr.cell? ⟨tb,0,none⟩=some vn∧NdsOwn wr (tb+1) vn ((rds.take k).map Prod.fst)
 fz:wr.frozen? ⟨tb,0,none⟩=false
 stk:wr.ownsRow w2.heap.size 169 2 vs st.length (st.flatMap wCells)
 ap:vs.ownBlock ≠ some tb
 sm:∀ x ∈ st,Sm x
 hgo:Hid (chkGo leaf rds 0 []=chkGo leaf (rds.drop k) k st.reverse)
 wf:Hid (wfN (rds.drop k) st.length=some 1)
 len:st.length≤k
def chkR (leaf:Nd → Option W2) (rds:Rd):Except (Int × Int) (List Nd):=match chkGo leaf rds 0 [] with
 | some p=>.error p
 | none=>.ok (rds.map Prod.fst)
def TmPost (r:Except (Int × Int) (List Nd)) (w:World) (e:Ending) (w':World):Prop :=
 match r with
 | .ok ns=>∃ v,e=.returned (.tuple #[.agg #[v],.nilIface])∧NdsOwn w' w.heap.size v ns∧Below w.heap.size w w'
 | .error p=>e=.returned (.tuple #[.agg #[.slice none 0 0],errV p])∧Below w.heap.size w w'
structure CkMid (rds:Rd) (w2 wr w4:World) (tb:Nat) (vs vn v':Value) (k:Nat) (x:Nd × Int) (st:List W2):Prop where
 bel:Below w2.heap.size w2 w4
 lo:w2.heap.size<tb
 sz:tb<wr.heap.size
 sz4:wr.heap.size+2<w4.heap.size
 own:w4.ownsRow (tb+1) 144 3 v' (k+1) (((rds.take (k+1)).map Prod.fst).flatMap ndCells)
 stk:w4.ownsRow w2.heap.size 169 2 vs st.length (st.flatMap wCells)
 slo:∀ j,vs.ownBlock=some j → j<wr.heap.size
 ctb:w4.cell? ⟨tb,0,none⟩=some vn
 fz:w4.frozen? ⟨tb,0,none⟩=false
 n0:w4.cell? ⟨wr.heap.size+1,0,none⟩=some (.int .i64 x.1.kind)
 n1:w4.cell? ⟨wr.heap.size+1,1,none⟩=some (.int .i64 x.1.value)
 n2:w4.cell? ⟨wr.heap.size+1,2,none⟩=some (.string x.1.name)
 p3:w4.cell? ⟨wr.heap.size,3,none⟩=some (.int .i64 x.2)
theorem ck_mid {leaf:Nd → Option W2} {rds:Rd} {w2 wr w4:World} {tb:Nat} {vs vn v':Value} {k:Nat} {st:List W2} (hst:CkSt leaf rds w2 wr tb vs k st) (hlt:k<rds.length) {t1 t2 t3:TypeId} {c3:Array Value}
  (hvn:wr.cell? ⟨tb,0,none⟩=some vn) (hown:NdsOwn wr (tb+1) vn ((rds.take k).map Prod.fst))
  (h4:w4.ownsRow (tb+1) 144 3 v' (k+1) (((rds.take k).map Prod.fst).flatMap ndCells ++ ndCells rds[k].1))
  (hg:(((wr.alloc (.cells #[.int .i64 rds[k].1.kind,.int .i64 rds[k].1.value,.string rds[k].1.name,.int .i64 rds[k].2] t1)).alloc (.cells #[.int .i64 rds[k].1.kind,.int .i64 rds[k].1.value,.string rds[k].1.name] t2)).alloc (.cells c3 t3)).grownBy w4 vn.ownBlock) :
  CkMid rds w2 wr w4 tb vs vn v' k rds[k] st:=by
 have hsz:=hst.sz
 have hlo0:=hst.lo
 have hlo:∀ j,vn.ownBlock=some j → tb+1≤j∧j<wr.heap.size:=fun j hj=>World.ownsRow.lt hown j hj
 have hW3:Below wr.heap.size wr (((wr.alloc (.cells #[.int .i64 rds[k].1.kind,.int .i64 rds[k].1.value,.string rds[k].1.name,.int .i64 rds[k].2] t1)).alloc (.cells #[.int .i64 rds[k].1.kind,.int .i64 rds[k].1.value,.string rds[k].1.name] t2)).alloc (.cells c3 t3)):=(((Below.refl _ _).alloc (Nat.le_refl _) _).alloc (by simp) _).alloc (by simp;omega) _
 have hE:=(Exc.refl (fun j=>vn.ownBlock=some j) _).grown hg (fun j hj=>.inr hj)
 have z4:=hE.size
 simp only [World.size_alloc] at z4
 obtain ⟨hc,hf⟩:=hE.cell
 simp only [World.size_alloc] at hc hf
 have ne:∀ b,(b≤tb∨wr.heap.size≤b) → ¬ vn.ownBlock=some b:=fun b hb e=>by have:=hlo b e;omega
 refine ⟨?_,hlo0,hsz,by omega,?_,?_,fun j hj=>(World.ownsRow.lt hst.stk j hj).2,?_,?_,?_,?_,?_,?_⟩
 ·exact (hst.bel.trans (hW3.mono (by omega))).grown hg (by simp;omega) (fun j hj=>by have:=hlo j hj;omega)
 ·rw [List.take_succ_eq_append_getElem hlt,List.map_append,List.flatMap_append]
  simpa using h4
 ·exact owns_exc hE (owns_keep hW3 hst.stk) (fun j hj hv=>owns_ne hst.stk hown (by decide) j hj hv)
 ·rw [hc _ _ (by omega) (ne _ (by omega)),hW3.cell (p:=⟨tb,0,none⟩) (by simp;omega)];exact hvn
 ·rw [hf _ _ (by omega) (ne _ (by omega)),hW3.frozen (p:=⟨tb,0,none⟩) (by simp;omega)];exact hst.fz
 ·rw [hc _ _ (by omega) (ne _ (by omega))];go_simp
 ·rw [hc _ _ (by omega) (ne _ (by omega))];go_simp
 ·rw [hc _ _ (by omega) (ne _ (by omega))];go_simp
 ·rw [hc _ _ (by omega) (ne _ (by omega))];go_simp
theorem below_exc {T:Nat → Prop} {w0 w1:World} {B:Nat} (h:Exc T w0 w1) (hB:B≤w0.heap.size) (hT:∀ k,T k → B≤k):Below B w0 w1 :=
 ⟨h.os,h.tape,h.output,h.size,fun k hk=>h.block k (by omega) (fun ht=>by have:=hT k ht;omega)⟩
theorem ck_next {leaf:Nd → Option W2} {rds:Rd} {w2 w5 w6:World} {tb k n:Nat} {vn vs vs':Value} {xs:List Value} {st':List W2}
  (hbel:Below w2.heap.size w2 w5) (hlo:w2.heap.size<tb) (hsz:tb<w5.heap.size) (htb:w5.cell? ⟨tb,0,none⟩=some vn) (hn:NdsOwn w5 (tb+1) vn ((rds.take (k+1)).map Prod.fst)) (hfz:w5.frozen? ⟨tb,0,none⟩=false)
  (hstk:w5.ownsRow w2.heap.size 169 2 vs n xs) (hap:vs.ownBlock ≠ some tb) (hE:Exc (fun j=>vs.ownBlock=some j) w5 w6)
  (hown:w6.ownsRow w2.heap.size 169 2 vs' st'.length (st'.flatMap wCells)) (hap':vs'.ownBlock ≠ some tb) (hsm:∀ x ∈ st',Sm x)
  (hgo:Hid (chkGo leaf rds 0 []=chkGo leaf (rds.drop (k+1)) (k+1) st'.reverse)) (hwf:Hid (wfN (rds.drop (k+1)) st'.length=some 1)) (hlen:st'.length≤k+1):CkSt leaf rds w2 w6 tb vs' (k+1) st' :=
 ⟨hbel.trans (below_exc hE hbel.size (fun j hj=>(World.ownsRow.lt hstk j hj).1)),hlo,Nat.lt_of_lt_of_le hsz hE.size,⟨vn,(hE.cell.1 tb 0 hsz hap).trans htb,owns_exc hE hn (fun j hj hv=>owns_ne hstk hn (by decide) j hv hj)⟩,
  (hE.cell.2 tb 0 hsz hap).trans hfz,hown,hap',hsm,hgo,hwf,hlen⟩
theorem checked_any (v vr:Value) (L:List Df) (rds:Rd) (w:World) (hv:DfsAt w v L) (hn:L.length≤1048576) (hs:∀ d ∈ L,DfOk d) (hsm:∀ d ∈ L,Sm (d.inn,d.out)) (hr:RdsAt w vr rds) (hrl:rds.length≤40000) (hp:∀ x ∈ rds,PNd x.1) (hw:wfN rds 0=some 1) :
  Calls Tryz.prog 113 #[v,vr] w (TmPost (chkR (leafT L) rds) w):=by
 obtain ⟨a,cap,rfl⟩:∃ a cap,v=.slice a L.length cap:=by obtain ⟨a,cap,rfl,_⟩:=hv;exact ⟨a,cap,rfl⟩
 obtain ⟨ar,capr,rfl,hcr,hat⟩:=hr
 obtain ⟨i0,hi,hz0,hz1,hz2⟩:=info_parts info147
 obtain ⟨j0,hj,hy0,hy1,hy2⟩:=info_parts info170
 have hsm':∀ n x,leafT L n=some x → Sm x:=fun n x h=>leafT_sm hsm h
 have HW:=Lib.hid hw
 clear hw
 go_enter Tryz.func113,Tryz.ntmps113
 go_wp2_with (go_at_call 181;refine (typingIn_any _ L _ (hv.keep (alloc_below _ _)) hn (fun d hd=>(hs d hd).1)).mono ?_;rintro e w2 ⟨bc,rfl,ht2,hbc,hb2⟩)
 have hbr2:Below w.heap.size w w2:=(alloc_below _ _).trans (hb2.mono (by simp))
 have hzb:=hb2.size
 simp only [World.size_alloc] at hzb hbc
 have rr0:w2.cell? ⟨w.heap.size,0,none⟩=some (.slice none 0 0):=cell_keep hb2 (by simp)
 have rrf:w2.frozen? ⟨w.heap.size,0,none⟩=false:=(hb2.frozen (p:=⟨w.heap.size,0,none⟩) (by simp)).trans (by simp)
 obtain ⟨tb,htbe⟩:∃ tb,tb=w2.heap.size+1:=⟨_,rfl⟩
 rw [← htbe]
 have HTB:=Lib.hid htbe
 clear htbe
 go_loopw [7,23] (fun v i wr=>∃ (k:Nat) (st:List W2),k≤rds.length∧i=.int .i64 k∧CkSt (leafT L) rds w2 wr tb v k st) (fun _ i _=>rds.length - (intOf i).toNat)
 case atStart =>
  obtain rfl:=HTB.out
  refine ⟨0,[],Nat.zero_le _,rfl,(alloc_below _ _).alloc (by simp) _,by simp,by simp,⟨.slice none 0 0,by simp,⟨by simp,.inl ⟨rfl,rfl⟩⟩⟩,by simp,?_,by simp [Value.ownBlock],by simp,(by simp [Hid]:Hid (chkGo (leafT L) rds 0 []=chkGo (leafT L) (rds.drop 0) 0 ([]:List W2).reverse)),HW,Nat.le_refl _⟩
  have:=World.ownsRow_lit (base:=w2.heap.size) (size:=2) (e:=169) w2 #[] 0 (Nat.le_refl _) (by unfold maxLen;omega) rfl
  simpa using owns_keep (alloc_below _ _) this
 case round =>
  obtain ⟨k,st,hk,rfl,hst⟩:=hrel
  have hbel:=hst.bel
  have hsz:=hst.sz
  have hlo:=hst.lo
  have hbw:Below w.heap.size w wr:=hbr2.trans (hbel.mono (by omega))
  have r0:wr.cell? ⟨w.heap.size,0,none⟩=some (.slice none 0 0):=cell_keep hbel rr0
  have rf:wr.frozen? ⟨w.heap.size,0,none⟩=false:=(hbel.frozen (p:=⟨w.heap.size,0,none⟩) (by simp;omega)).trans rrf
  have hsw:w.heap.size<wr.heap.size:=by omega
  by_cases hlt:k<rds.length
  ·obtain ⟨b,o,rfl,_,hnd⟩:=hat k hlt
   obtain ⟨c0,c1,c2,c3⟩:=hnd.keep hbw
   have hpx:=hp rds[k] (List.getElem_mem _)
   have hnm:rds[k].1.name.size≤1048576:=by have:=hpx.size;omega
   clear hat hnd
   have hdrop:=List.drop_eq_getElem_cons hlt
   have hgo0:=hst.hgo
   have hwf0:=hst.wf
   by_cases h400:400≤k
   ·have HT:Hid (chkR (leafT L) rds=.error (rds[k].2,1)):=(show _=_ by unfold chkR;rw [hgo0.out,hdrop,chk_long h400])
    have gk:(400:Int)≤k:=by omega
    clear hst hgo0 hwf0 hdrop hpx
    go_wp2_with fail
    go_region
    go_wp2
    refine bodyPost_ret (v:=.tuple #[.agg #[.slice none 0 0],errV (rds[k].2,1)]) (by simp [results,Tryz.results113,go_sem,errV,hsw,rf,r0]) rfl ?_
    rw [HT.out]
    refine ⟨rfl,?_⟩
    (repeat (first|(with_reducible refine Below.alloc ?_ ?_ _;rotate_left;(first|omega|(simp;done)|(simp;omega)))|(with_reducible refine Below.setCell ?_ ?_ _;rotate_left;(first|exact Nat.le_refl _|(simp;done)|(simp;omega)))|(with_reducible refine Below.drew ?_)));exact hbw
   have gk:¬ (400:Int)≤k:=by omega
   obtain ⟨vn,htb,hown⟩:=hst.nds
   have hnl:((rds.take k).map Prod.fst).length=k:=by simp;omega
   have hownR:wr.ownsRow (tb+1) 144 3 vn k (((rds.take k).map Prod.fst).flatMap ndCells):=by have:=hown;unfold NdsOwn at this;rwa [hnl] at this
   obtain ⟨an,cpn,rfl⟩:=owns_shape hownR
   obtain ⟨ns0,hns0⟩:∃ ns0,(rds.take k).map Prod.fst=ns0:=⟨_,rfl⟩
   rw [hns0] at hown hownR hnl
   have HNS:=Lib.hid hns0
   clear hns0
   by_cases hk1:rds[k].1.kind=15∨rds[k].1.kind=16
   ·have hwl:2≤st.length∧wfN (rds.drop (k+1)) (st.length - 1)=some 1:=by
     have h0:=hwf0.out
     rw [hdrop] at h0
     unfold wfN at h0
     rw [if_pos hk1] at h0
     by_cases h2:2≤st.length
     ·rw [if_pos h2] at h0;exact ⟨h2,h0⟩
     ·rw [if_neg h2] at h0;cases h0
    obtain ⟨st0,p,q,rfl⟩:=last_two st (by omega)
    have HWF:Hid (wfN (rds.drop (k+1)) (st0.length+1)=some 1):=(show _=_ by have:=hwl.2;simpa using this)
    have hstl:st0.length+2≤k:=by have:=hst.len;simpa using this
    have hsma:=hst.sm
    have hpq:Sm p∧Sm q:=⟨hsma p (by simp),hsma q (by simp)⟩
    obtain ⟨g,cp,rfl,hgc,hgm,hgB,hgs⟩:=owns_some hst.stk (by simp)
    simp only [List.length_append,List.length_cons,List.length_nil,Nat.zero_add,Nat.reduceAdd] at hgc
    have hap:¬ g=tb:=fun e=>hst.ap (by simp [Value.ownBlock,e])
    have hgo1:∀ x,joinW rds[k].1.kind p q=some x → Hid (chkGo (leafT L) rds 0 []=chkGo (leafT L) (rds.drop (k+1)) (k+1) (st0 ++ [x]).reverse):=fun x hx=>(show _=_ by
     rw [hgo0.out,hdrop]
     have e:(st0 ++ [p,q]).reverse=q :: p :: st0.reverse:=by simp
     rw [e,chk_join (by omega) hk1 hx,List.reverse_append];rfl)
    have hgo2:joinW rds[k].1.kind p q=none → Hid (chkR (leafT L) rds=.error (rds[k].2,7)):=fun hx=>(show _=_ by
     unfold chkR
     have e:(st0 ++ [p,q]).reverse=q :: p :: st0.reverse:=by simp
     rw [hgo0.out,hdrop,e,chk_nojoin (by omega) hk1 hx])
    have HJ:=Lib.hid (And.intro (And.intro hgo1 hgo2) (joinRes_ok rds[k].1.kind p q))
    have hkk:((rds[k].1.kind == 15)=true)∨((rds[k].1.kind == 15)=false∧(rds[k].1.kind == 16)=true):=by
     rcases hk1 with h|h <;> simp [h]
    have fzt:=hst.fz
    have hk0:k≤1048576:=by omega
    clear hk1 hgo0 hwf0 hdrop hpx hgo1 hgo2 hwl
    rcases hkk with gk|⟨gk,gk'⟩
    all_goals
     go_wp2_with (at_builtin;refine wpList_append_src rfl (.tmp 38) (.tmp 40) 28 rfl (tb+1) 144 j0 _ 3 32 Tryz.underlying28 hj hy0 hy1 hy2 rfl (by decide) (.slice an k cpn) k (ns0.flatMap ndCells) rfl (((hownR.alloc _).alloc _).alloc _) (.slice (some ⟨wr.heap.size+1+1,0,none⟩) 1 1) 1 (ndCells rds[k].1) rfl ?c1 ?c2 (by unfold maxLen;omega) (by omega) (by simp;omega) ?_)
     case c1 =>
      refine ⟨rfl,.inr ⟨_,1,rfl,?_⟩⟩
      intro j u hj
      match j,hj with
      | 0,hj=>simp [ndCells] at hj;subst hj;simp only [Addr.add];go_simp
      | 1,hj=>simp [ndCells] at hj;subst hj;simp only [Addr.add];go_simp
      | 2,hj=>simp [ndCells] at hj;subst hj;simp only [Addr.add];go_simp
     case c2=>intro u hu;simp [ndCells] at hu;rcases hu with rfl|rfl|rfl <;> rfl
     intro v' w4 hown4 hgr4 ho4
     obtain ⟨a4,c4,rfl⟩:=owns_shape hown4
     have hmid:=ck_mid hst hlt htb (by rw [HNS.out];exact hown) (by rw [HNS.out];exact hown4) hgr4
     clear hown4 hgr4 ho4
     obtain ⟨mbel,_,_,m4,mown,mstk,mslo,mtb,mfz,n0,n1,n2,p3⟩:=hmid
     have mr0:=cell_keep mbel rr0
     have mrf:=(mbel.frozen (p:=⟨w.heap.size,0,none⟩) (by simp;omega)).trans rrf
     have hstb:tb<w4.heap.size:=by omega
     have hbS:∀ u,Below w2.heap.size w2 (w4.setCell ⟨tb,0,none⟩ u):=fun u=>mbel.setCell (by simp;omega) _
     have htr:=ht2.keep (hbS (.slice a4 (k+1) c4))
     obtain ⟨W,hWe⟩:∃ W,W=w4.setCell ⟨tb,0,none⟩ (.slice a4 (k+1) c4):=⟨_,rfl⟩
     have xn0:W.cell? ⟨wr.heap.size+1,0,none⟩=some (.int .i64 rds[k].1.kind):=by rw [hWe];go_simp
     have xp3:W.cell? ⟨wr.heap.size,3,none⟩=some (.int .i64 rds[k].2):=by rw [hWe];go_simp
     have xr0:W.cell? ⟨w.heap.size,0,none⟩=some (.slice none 0 0):=by rw [hWe];go_simp
     have xrf:W.frozen? ⟨w.heap.size,0,none⟩=false:=by rw [hWe];go_simp
     have xtb:W.cell? ⟨tb,0,none⟩=some (.slice a4 (k+1) c4):=by rw [hWe];go_simp
     have xfz:W.frozen? ⟨tb,0,none⟩=false:=by rw [hWe];simpa using mfz
     have xz:W.heap.size=w4.heap.size:=by rw [hWe];simp
     have hBW:Below w.heap.size w W:=hbr2.trans (by rw [hWe];exact (hbS _).mono (by omega))
     have hBW2:Below w2.heap.size w2 W:=by rw [hWe];exact hbS _
     have hstkW:W.ownsRow w2.heap.size 169 2 (.slice (some ⟨g,0,none⟩) (st0.length+2) cp) (st0.length+2) ((st0 ++ [p,q]).flatMap wCells):=by
      have h0:=mstk
      rw [show (st0 ++ [p,q]).length=st0.length+2 by simp] at h0
      rw [hWe];exact owns_other h0 _ _ (by simp [Value.ownBlock];exact hap)
     have xown:NdsOwn W (tb+1) (.slice a4 (k+1) c4) ((rds.take (k+1)).map Prod.fst):=by
      have hl:((rds.take (k+1)).map Prod.fst).length=k+1:=by simp;omega
      unfold NdsOwn
      rw [hl,hWe]
      exact owns_other mown _ _ (fun e=>by have:=(World.ownsRow.lt mown _ e).1;simp at this;omega)
     have d0:=owns_cell wCells_len hstkW st0.length 0 (by simp) (by omega)
     have d1:=owns_cell wCells_len hstkW st0.length 1 (by simp) (by omega)
     have d2:=owns_cell wCells_len hstkW (st0.length+1) 0 (by simp) (by omega)
     have d3:=owns_cell wCells_len hstkW (st0.length+1) 1 (by simp) (by omega)
     simp [wCells] at d0 d1 d2 d3
     clear hown hownR mstk mown hst htr
     go_wp2_with fail
     rw [← hWe]
     obtain ⟨nb,hnb⟩:∃ nb,nb=wr.heap.size+1:=⟨_,rfl⟩
     rw [← hnb] at xn0 ⊢
     have hnbW:nb<W.heap.size:=by omega
     have hpW:wr.heap.size<W.heap.size:=by omega
     have hgW:g<W.heap.size:=by omega
     have htW:tb<W.heap.size:=by omega
     have hwW:w.heap.size<W.heap.size:=by omega
     clear hnb hWe n0 n1 n2 p3 mr0 mrf mtb mfz hbS hstb xz
     have e1:IntKind.i64.wrap ((st0.length:Int)+2 - 1 - 1)=(st0.length:Int):=by rw [show (st0.length:Int)+2 - 1 - 1=(st0.length:Int) by omega];exact IntWalk.i64_in _ (by omega)
     have e2:((st0.length:Int)+2 - 1).toNat=st0.length+1:=by omega
     have e3:0≤(st0.length:Int)+2 - 1∧(st0.length:Int)+2 - 1<(st0.length:Int)+2:=by omega
     have e4:0≤(st0.length:Int)∧(st0.length:Int)<(st0.length:Int)+2:=by omega
     have e5:1≤(st0.length:Int)+2:=by omega
     refine region_acts (C:=Exc (NoT) _) 2 [0,1,2,3,4,5,6,7,8,9,10,11,12,13,14,15,16,17] (by kernel_rfl) (by kernel_rfl) (Exc.grows _ _) (Exc.refl _ _) ?_
     iterate 11 (apply x_st rfl rfl rfl;(focus intro u hc' hf';go_simp <;> rfl);intro K hK;go_simp;apply hK;clear hK K)
     refine x_call rfl rfl rfl (Exc.grows _ _) (Exc.refl _ _) 182 (fun K hK=>?_);apply Exists.intro;refine ⟨fun w' hw'=>?_,fun w' hw' hbw=>?_⟩;(focus go_simp;rfl);refine (joinWires_any _ p q _ hpq.1 hpq.2).mono ?_;rintro e w3 ⟨rfl,hb3⟩;refine ⟨_,rfl,hb3,fun hx=>?_⟩;go_simp;apply hK;clear hK K
     iterate 3 (apply x_st rfl rfl rfl;(focus intro u hc' hf';go_simp <;> rfl);intro K hK;go_simp;apply hK;clear hK K)
     refine x_make rfl rfl rfl (Exc.grows _ _) hx (fun b=>.pointer (some ⟨b,0,none⟩)) (fun K hK=>?_)
     apply Exists.intro
     refine ⟨fun w' hw'=>?_,fun bb w4 hw4 hb4 hbo hNb hnb=>?_⟩
     ·go_simp
      rfl
     go_simp
     refine hK _ _ _ ?_
     clear hK K
     refine x_do rfl rfl rfl (Exc.grows _ _) hw4 (fun K hK=>?_)
     intro w5 hw5 hb5
     obtain ⟨m0,m1,m2⟩:=made_cell ((hb5.block bb (made_cell hbo).2.2).trans hbo)
     refine ⟨(w5.setCell ⟨bb,0,none⟩ (.int .i64 (joinRes rds[k].1.kind p q).1.1)).setCell ⟨bb,1,none⟩ (.int .i64 (joinRes rds[k].1.kind p q).1.2),?_,⟨exc_set (exc_set hw5 (.inl hNb) _) (.inl hNb) _,by simp,fun j _ hj _=>by rw [Below.heap_setCell _ _ _ _ (fun h=>hj (by simp [h])),Below.heap_setCell _ _ _ _ (fun h=>hj (by simp [h]))]⟩,?_⟩
     ·go_simp
     go_simp
     refine hK _ _ _ ?_
     clear hK K
     iterate 1 (apply x_st rfl rfl rfl;(focus intro u hc' hf';go_simp <;> rfl);intro K hK;go_simp;apply hK;clear hK K)
     refine x_nil ?_
     obtain ⟨w6,hw6⟩:∃ w6,w6=(w5.setCell ⟨bb,0,none⟩ (.int .i64 (joinRes rds[k].1.kind p q).1.1)).setCell ⟨bb,1,none⟩ (.int .i64 (joinRes rds[k].1.kind p q).1.2):=⟨_,rfl⟩
     rw [← hw6]
     have hbb:W.heap.size≤bb:=by simpa using hNb
     have hb6:Below W.heap.size W w6:=by
      rw [hw6]
      exact ((((Below.refl _ W).drew.trans (hw5.toBelow.mono (by simp))).setCell hbb _).setCell hbb _)
     have n0:w6.cell? ⟨bb,0,none⟩=some (.int .i64 (joinRes rds[k].1.kind p q).1.1):=by rw [hw6];go_simp
     have n1:w6.cell? ⟨bb,1,none⟩=some (.int .i64 (joinRes rds[k].1.kind p q).1.2):=by rw [hw6];go_simp
     have hbb2:bb<w6.heap.size:=by rw [hw6];simpa using m2
     clear hw6 hw4 hb4 hbo hNb hw5 hb5 m0 m1 m2 hx hb3 d0 d1 d2 d3
     have yp3:=cell_keep hb6 xp3
     have yr0:=cell_keep hb6 xr0
     have yrf:=(hb6.frozen (p:=⟨w.heap.size,0,none⟩) (by simpa using hwW)).trans xrf
     have yz:=hb6.size
     have ywz:w.heap.size<w6.heap.size:=by omega
     have ypz:wr.heap.size<w6.heap.size:=by omega
     cases hj2:(joinRes rds[k].1.kind p q).2
     ·have HT:Hid (chkR (leafT L) rds=.error (rds[k].2,7)):=HJ.out.1.2 (by rw [← HJ.out.2,if_neg (by simp [hj2])])
      clear HJ hj2
      go_wp2_with fail
      go_region
      go_wp2
      refine bodyPost_ret (v:=.tuple #[.agg #[.slice none 0 0],errV (rds[k].2,7)]) (by simp [results,Tryz.results113,go_sem,errV,ywz,yrf,yr0]) rfl ?_
      rw [HT.out]
      refine ⟨rfl,?_⟩
      (repeat (first|(with_reducible refine Below.alloc ?_ ?_ _;rotate_left;(first|omega|(simp;done)|(simp;omega)))|(with_reducible refine Below.setCell ?_ ?_ _;rotate_left;(first|exact Nat.le_refl _|(simp;done)|(simp;omega)))|(with_reducible refine Below.drew ?_)));exact hBW.trans (hb6.mono (by omega))
     ·have hjw:joinW rds[k].1.kind p q=some (joinRes rds[k].1.kind p q).1:=by rw [← HJ.out.2,if_pos hj2]
      have hgo:=HJ.out.1.1 _ hjw
      have hxs:=joinW_sm hpq.1 hpq.2 hjw
      clear HJ hj2 hjw
      generalize (joinRes rds[k].1.kind p q).1=x at *
      have e6:0≤(st0.length:Int)∧(st0.length:Int)≤(cp:Int):=by omega
      have hbg:¬ bb=g:=by omega
      have hown6:w6.ownsRow w2.heap.size 169 2 (.slice (some ⟨g,0,none⟩) st0.length cp) st0.length (st0.flatMap wCells):=by
       have h0:=owns_take (owns_keep hb6 hstkW) st0.length (by omega)
       rw [List.flatMap_append,List.take_left' (by have:=flat_length wCells_len st0;omega)] at h0
       exact h0
      go_wp2_with fail
      refine region_acts (C:=Exc ((fun j=>j=g)) _) 2 [0,1,2,3,4,5,6,7] (by kernel_rfl) (by kernel_rfl) (Exc.grows _ _) (Exc.refl _ _) ?_
      iterate 4 (apply x_sT rfl rfl rfl;(focus intro u hc' hf';(try simp only [World.size_drew] at hc' hf');go_simp <;> rfl);intro K hK;go_simp;apply hK;clear hK K)
      refine x_still rfl rfl rfl (fun K hK=>?_)
      apply Exists.intro
      refine ⟨fun w' hw'=>?_,?_⟩
      ·obtain ⟨hc9,hf9⟩:=hw'.cell
       have hq:=hc9 bb 0 (by simp;exact hbb2) hbg
       have hq1:=hc9 bb 1 (by simp;exact hbb2) hbg
       go_simp
       rfl
      go_simp
      refine hK _ _ _ ?_
      clear hK K
      refine x_make rfl rfl rfl (Exc.grows _ _) (Exc.refl _ _) (fun b=>.slice (some ⟨b,0,none⟩) 1 1) (fun K hK=>?_)
      apply Exists.intro
      refine ⟨fun w' hw'=>?_,fun b7 w7 hw7 hb7 hbo hNb hnb=>?_⟩
      ·go_simp
       rfl
      go_simp
      refine hK _ _ _ ?_
      clear hK K
      refine x_fits rfl rfl rfl hw7 _ _ 248 rfl w2.heap.size 169 i0 2 Tryz.underlying248 hi hz1 g st0.length cp (st0.flatMap wCells) rfl (by simp;omega) rfl ⟨b7,0,none⟩ 1 1 [.int .i64 x.1,.int .i64 x.2] rfl rfl ?d1 (by omega) ?d2 ?_
      case d1=>intro u hu;simp at hu;rcases hu with rfl|rfl <;> rfl
      case d2 =>
       intro w8 hw8 hb8
       refine ⟨owns_keep hb8 (owns_keep hb7 hown6.drew),?_⟩
       obtain ⟨m0,m1,m2⟩:=made_cell ((hb8.block b7 (made_cell hbo).2.2).trans hbo)
       intro j u hj
       match j,hj with
       | 0,hj=>simp at hj;subst hj;simp [Addr.add,m0]
       | 1,hj=>simp at hj;subst hj;simp [Addr.add,m0]
      intro K hK w8 w9 hw8 hb8 hown9 hgr9 hw9
      go_simp
      refine hK _ _ _ ?_
      clear hK K
      iterate 1 (apply x_sT rfl rfl rfl;(focus intro u hc' hf';(try simp only [World.size_drew] at hc' hf');go_simp <;> rfl);intro K hK;go_simp;apply hK;clear hK K)
      refine x_nil ?_
      have hE9:Exc (fun j=>(Value.slice (some ⟨g,0,none⟩) st0.length cp).ownBlock=some j) w6 w9:=(Below.exc (((Below.refl w6.heap.size w6).drew.trans (hb7.mono (by simp))).trans (hb8.mono (by have:=hb7.size;simpa using this)))).grown hgr9 (fun j hj=>.inr (by simpa [Value.ownBlock] using hj))
      have hst9:=ck_next (st':=st0 ++ [x]) (vs:=.slice (some ⟨g,0,none⟩) st0.length cp) (hBW2.trans (hb6.mono hBW2.size)) hlo (by omega) (cell_keep hb6 xtb) (NdsOwn.keep hb6 xown) ((hb6.frozen (p:=⟨tb,0,none⟩) (by simpa using htW)).trans xfz) hown6 (by simp [Value.ownBlock];exact hap) hE9 (by rw [List.length_append,List.flatMap_append];exact hown9)
       (by simp [Value.ownBlock];exact hap) (fun y hy=>by rcases List.mem_append.1 hy with hy|hy;exact hsma y (by simp [hy]);(simp at hy;subst hy;exact hxs)) hgo (by simpa using HWF) (by simp;omega)
      clear hown9 hgr9 hw9 hb8 hw8 hb7 hw7 hown6 hE9 hgo hxs
      go_wp2
      go_roundw
      case rel=>exact ⟨k+1,_,by omega,by go_num,hst9⟩
      case measure=>simp [intOf];omega
   ·have g15:(rds[k].1.kind == 15)=false:=by simp;omega
    have g16:(rds[k].1.kind == 16)=false:=by simp;omega
    have fzt:=hst.fz
    have hk0:k≤1048576:=by omega
    go_wp2_with (at_builtin;refine wpList_append_src rfl (.tmp 38) (.tmp 40) 28 rfl (tb+1) 144 j0 _ 3 32 Tryz.underlying28 hj hy0 hy1 hy2 rfl (by decide) (.slice an k cpn) k (ns0.flatMap ndCells) rfl (((hownR.alloc _).alloc _).alloc _) (.slice (some ⟨wr.heap.size+1+1,0,none⟩) 1 1) 1 (ndCells rds[k].1) rfl ?c1 ?c2 (by unfold maxLen;omega) (by omega) (by simp;omega) ?_)
    case c1 =>
     refine ⟨rfl,.inr ⟨_,1,rfl,?_⟩⟩
     intro j u hj
     match j,hj with
     | 0,hj=>simp [ndCells] at hj;subst hj;simp only [Addr.add];go_simp
     | 1,hj=>simp [ndCells] at hj;subst hj;simp only [Addr.add];go_simp
     | 2,hj=>simp [ndCells] at hj;subst hj;simp only [Addr.add];go_simp
    case c2=>intro u hu;simp [ndCells] at hu;rcases hu with rfl|rfl|rfl <;> rfl
    intro v' w4 hown4 hgr4 ho4
    obtain ⟨a4,c4,rfl⟩:=owns_shape hown4
    have hmid:=ck_mid hst hlt htb (by rw [HNS.out];exact hown) (by rw [HNS.out];exact hown4) hgr4
    clear hown4 hgr4 ho4
    obtain ⟨mbel,_,_,m4,mown,mstk,mslo,mtb,mfz,n0,n1,n2,p3⟩:=hmid
    have mr0:=cell_keep mbel rr0
    have mrf:=(mbel.frozen (p:=⟨w.heap.size,0,none⟩) (by simp;omega)).trans rrf
    have hstb:tb<w4.heap.size:=by omega
    have hbS:∀ u,Below w2.heap.size w2 (w4.setCell ⟨tb,0,none⟩ u):=fun u=>mbel.setCell (by simp;omega) _
    have htr:=ht2.keep (hbS (.slice a4 (k+1) c4))
    obtain ⟨W,hWe⟩:∃ W,W=w4.setCell ⟨tb,0,none⟩ (.slice a4 (k+1) c4):=⟨_,rfl⟩
    have xn0:W.cell? ⟨wr.heap.size+1,0,none⟩=some (.int .i64 rds[k].1.kind):=by rw [hWe];go_simp
    have xp3:W.cell? ⟨wr.heap.size,3,none⟩=some (.int .i64 rds[k].2):=by rw [hWe];go_simp
    have xr0:W.cell? ⟨w.heap.size,0,none⟩=some (.slice none 0 0):=by rw [hWe];go_simp
    have xrf:W.frozen? ⟨w.heap.size,0,none⟩=false:=by rw [hWe];go_simp
    have xtb:W.cell? ⟨tb,0,none⟩=some (.slice a4 (k+1) c4):=by rw [hWe];go_simp
    have xfz:W.frozen? ⟨tb,0,none⟩=false:=by rw [hWe];simpa using mfz
    have xz:W.heap.size=w4.heap.size:=by rw [hWe];simp
    have hBW:Below w.heap.size w W:=hbr2.trans (by rw [hWe];exact (hbS _).mono (by omega))
    rw [← hWe] at htr
    cases hok:(typRes L rds[k].1).2
    ·have hlf:leafT L rds[k].1=none:=by simp [leafT,hok]
     have HOK:=Lib.hid hok
     by_cases h17:rds[k].1.kind=17
     ·have HT:Hid (chkR (leafT L) rds=.error (rds[k].2,5)):=(show _=_ by unfold chkR;rw [hgo0.out,hdrop,chk_noleaf (by omega) hk1 hlf,if_pos h17])
      have g17:(rds[k].1.kind == 17)=true:=by simp [h17]
      clear hok hlf h17 hk1 hst hgo0 hwf0 hdrop hpx mstk mown hown hownR
      go_wp2_with (go_at_call 240;rw [← hWe];refine (typing1_any rds[k].1 L bc W htr hnm).mono ?_;rintro e w5 ⟨rfl,hb5⟩;rw [HOK.out];have yn0:=cell_keep hb5 xn0;have yp3:=cell_keep hb5 xp3;have yr0:=cell_keep hb5 xr0;have yrf:=(hb5.frozen (p:=⟨w.heap.size,0,none⟩) (by simp;omega)).trans xrf;have y5:=hb5.size;rw [xz] at y5;have z5:w.heap.size<w5.heap.size:=(by omega);have z6:wr.heap.size+1<w5.heap.size:=(by omega);have z8:wr.heap.size<w5.heap.size:=(by omega))
      go_region
      go_wp2
      refine bodyPost_ret (v:=.tuple #[.agg #[.slice none 0 0],errV (rds[k].2,5)]) (by simp [results,Tryz.results113,go_sem,errV,z5,yrf,yr0]) rfl ?_
      rw [HT.out]
      refine ⟨rfl,?_⟩
      (repeat (first|(with_reducible refine Below.alloc ?_ ?_ _;rotate_left;(first|omega|(simp;done)|(simp;omega)))|(with_reducible refine Below.setCell ?_ ?_ _;rotate_left;(first|exact Nat.le_refl _|(simp;done)|(simp;omega)))|(with_reducible refine Below.drew ?_)));exact hBW.trans (hb5.mono (by omega))
     ·have HT:Hid (chkR (leafT L) rds=.error (rds[k].2,6)):=(show _=_ by unfold chkR;rw [hgo0.out,hdrop,chk_noleaf (by omega) hk1 hlf,if_neg h17])
      have g17:(rds[k].1.kind == 17)=false:=by simp [h17]
      clear hok hlf h17 hk1 hst hgo0 hwf0 hdrop hpx mstk mown hown hownR
      go_wp2_with (go_at_call 240;rw [← hWe];refine (typing1_any rds[k].1 L bc W htr hnm).mono ?_;rintro e w5 ⟨rfl,hb5⟩;rw [HOK.out];have yn0:=cell_keep hb5 xn0;have yp3:=cell_keep hb5 xp3;have yr0:=cell_keep hb5 xr0;have yrf:=(hb5.frozen (p:=⟨w.heap.size,0,none⟩) (by simp;omega)).trans xrf;have y5:=hb5.size;rw [xz] at y5;have z5:w.heap.size<w5.heap.size:=(by omega);have z6:wr.heap.size+1<w5.heap.size:=(by omega);have z8:wr.heap.size<w5.heap.size:=(by omega))
      go_region
      go_wp2
      refine bodyPost_ret (v:=.tuple #[.agg #[.slice none 0 0],errV (rds[k].2,6)]) (by simp [results,Tryz.results113,go_sem,errV,z5,yrf,yr0]) rfl ?_
      rw [HT.out]
      refine ⟨rfl,?_⟩
      (repeat (first|(with_reducible refine Below.alloc ?_ ?_ _;rotate_left;(first|omega|(simp;done)|(simp;omega)))|(with_reducible refine Below.setCell ?_ ?_ _;rotate_left;(first|exact Nat.le_refl _|(simp;done)|(simp;omega)))|(with_reducible refine Below.drew ?_)));exact hBW.trans (hb5.mono (by omega))
    ·have hlf:leafT L rds[k].1=some (typRes L rds[k].1).1:=by simp [leafT,hok]
     have hx:=hsm' _ _ hlf
     obtain ⟨x,hxe⟩:∃ x,(typRes L rds[k].1).1=x:=⟨_,rfl⟩
     rw [hxe] at hx hlf
     have HX:=Lib.hid hxe
     have HOK:=Lib.hid hok
     have hgo:Hid (chkGo (leafT L) rds 0 []=chkGo (leafT L) (rds.drop (k+1)) (k+1) (st ++ [x]).reverse):=(show _=_ by
      rw [hgo0.out,hdrop,chk_leaf (by omega) hk1 hlf,List.reverse_append];rfl)
     have hwf:Hid (wfN (rds.drop (k+1)) (st ++ [x]).length=some 1):=(show _=_ by
      have h0:=hwf0.out
      rw [hdrop] at h0
      unfold wfN at h0
      rw [if_neg hk1] at h0
      simpa using h0)
     have hstl:=hst.len
     have hsma:=hst.sm
     have hap:=hst.ap
     have xstk:W.ownsRow w2.heap.size 169 2 u7 st.length (st.flatMap wCells):=by rw [hWe];exact owns_other mstk _ _ hap
     have xown:NdsOwn W (tb+1) (.slice a4 (k+1) c4) ((rds.take (k+1)).map Prod.fst):=by
      have hl:((rds.take (k+1)).map Prod.fst).length=k+1:=by simp;omega
      unfold NdsOwn
      rw [hl,hWe]
      exact owns_other mown _ _ (fun e=>by have:=(World.ownsRow.lt mown _ e).1;simp at this;omega)
     have hBW2:Below w2.heap.size w2 W:=by rw [hWe];exact hbS _
     clear hxe hok hlf hk1 hst hgo0 hwf0 hdrop hpx mstk mown hown hownR
     go_wp2_with (first|(go_at_call 240;rw [← hWe];refine (typing1_any rds[k].1 L bc W htr hnm).mono ?_;rintro e w5 ⟨rfl,hb5⟩;rw [HOK.out,HX.out];have y5:=hb5.size;rw [xz] at y5;have hs5:=owns_keep hb5 xstk;have z7:w2.heap.size<w5.heap.size:=(by omega))|(at_builtin;refine wpList_append_src rfl (.tmp 110) (.tmp 112) 248 rfl w2.heap.size 169 i0 _ 2 16 Tryz.underlying248 hi hz0 hz1 hz2 rfl (by decide) u7 st.length (st.flatMap wCells) rfl ((hs5.alloc _).alloc _) (.slice (some ⟨w5.heap.size+1,0,none⟩) 1 1) 1 (wCells x) rfl ?d1 ?d2 (by unfold maxLen;omega) (by omega) (by simp;omega) ?_))
     case d1 =>
      refine ⟨rfl,.inr ⟨_,1,rfl,?_⟩⟩
      intro j u hj
      match j,hj with
      | 0,hj=>simp [wCells] at hj;subst hj;simp only [Addr.add];go_simp
      | 1,hj=>simp [wCells] at hj;subst hj;simp only [Addr.add];go_simp
     case d2=>intro u hu;simp [wCells] at hu;rcases hu with rfl|rfl <;> rfl
     intro v6 w6 hown6 hgr6 ho6
     have hE6:Exc (fun j=>Value.ownBlock u7=some j) w5 w6:=(Below.exc (((Below.refl _ _).alloc (Nat.le_refl _) _).alloc (by simp) _)).grown hgr6 (fun j hj=>.inr hj)
     have hst6:=ck_next (st':=st ++ [x]) (hBW2.trans (hb5.mono hBW2.size)) hlo (by omega) (cell_keep hb5 xtb) (NdsOwn.keep hb5 xown) ((hb5.frozen (p:=⟨tb,0,none⟩) (by simp;omega)).trans xfz) hs5 hap hE6 (by rw [List.length_append,List.flatMap_append];simpa using hown6)
      (fun e=>by rcases ho6 with h|h;exact hap (h.symm.trans e);(rw [h] at e;simp at e;omega)) (fun y hy=>by rcases List.mem_append.1 hy with hy|hy;exact hsma y hy;(simp at hy;subst hy;exact hx)) hgo hwf (by simp;omega)
     clear hown6 hgr6 ho6 hE6 hs5 xstk xown hgo hwf hb5
     go_wp2
     go_roundw
     case rel=>exact ⟨k+1,_,by omega,by go_num,hst6⟩
     case measure=>simp [intOf];omega
  ·have hkn:k=rds.length:=by omega
   subst hkn
   obtain ⟨vn,htb,hown⟩:=hst.nds
   rw [List.take_length] at hown
   have hgo0:=hst.hgo
   have HT:Hid (chkR (leafT L) rds=.ok (rds.map Prod.fst)):=(show _=_ by unfold chkR;rw [hgo0.out,List.drop_length];rfl)
   obtain ⟨an,cpn,rfl⟩:=hown.slice
   have hne:∀ j,(Value.slice an (rds.map Prod.fst).length cpn).ownBlock=some j → ¬ j=w.heap.size:=fun j hj e=>by have:=(World.ownsRow.lt hown j hj).1;omega
   have fzt:=hst.fz
   clear hgo0 hat hst
   go_wp2
   refine bodyPost_ret (v:=.tuple #[.agg #[.slice an (rds.map Prod.fst).length cpn],.nilIface]) (by simp [results,Tryz.results113,go_sem,hsw,rf,r0]) rfl ?_
   rw [HT.out]
   refine ⟨_,rfl,?_,?_⟩
   ·exact (NdsOwn.mono (B':=w.heap.size) (by omega) hown) |> fun h=>owns_other h _ _ (fun e=>hne _ e rfl)
   ·exact hbw.setCell (by simp) _
end Go.Proofs.YtbljmfcifljkaaaGreatDoor
/-
  The program's parser: a whole term. Own work.
-/
namespace Go.Proofs.YtbljmfcifljkaaaGreatDoor
open Go.RowKit
theorem par_raise {B B' br:Nat} {en:Int} {w:World} {ts:List Tk} (h:ParAt B br en w ts []) (hB:B≤B') (hw:B'≤w.heap.size):ParAt B' br en w ts []:=by
 obtain ⟨vt,vo,h⟩:=h
 obtain rfl:=h.nil rfl
 exact ⟨vt,_,Nat.lt_of_lt_of_le h.lt hB,hw,h.c0,h.c1,h.c2,h.fz,h.tk,fun b o n c e=>⟨Nat.lt_of_lt_of_le (h.low b o n c e).1 hB,(h.low b o n c e).2⟩,⟨by simp,.inl ⟨rfl,rfl⟩⟩,fun _=>rfl⟩
theorem parAt_below {B br:Nat} {en:Int} {w w':World} {ts:List Tk} {out:Rd} (h:ParAt B br en w ts out) (hb:Below w.heap.size w w'):ParAt B br en w' ts out:=by
 obtain ⟨vt,vo,h⟩:=h
 exact ⟨vt,vo,par_below h hb⟩
def WhPost (r:Except (Int × Int) (List Nd)) (br:Nat) (w:World) (e:Ending) (w':World):Prop :=
 match r with
 | .ok ns=>∃ v,e=.returned (.tuple #[.agg #[v],.nilIface])∧NdsOwn w' w.heap.size v ns∧Fr w.heap.size br w w'
 | .error p=>e=.returned (.tuple #[.agg #[.slice none 0 0],errV p])∧Fr w.heap.size br w w'
theorem chkR_good {L:List Df} (hg:good L=true) (rds:Rd):chkR (leafT L) rds=chkR (leafIn L) rds:=by
 have hgg:goodGo [] L=true:=by simp only [good,Bool.and_eq_true] at hg;exact hg.2
 unfold chkR
 rw [chkGo_congr (leafT_eq (good_uniq hgg)) rds 0 []]
theorem Fr.lower {B B' br:Nat} {w w':World} (h:Fr B br w w') (hB:B'≤B):Fr B' br w w':=⟨h.os,h.tape,h.output,h.size,fun k hk hn=>h.block k (by omega) hn⟩
theorem ParAt.facts {B br:Nat} {en:Int} {w:World} {ts:List Tk} {out:Rd} (h:ParAt B br en w ts out):br<B∧B≤w.heap.size∧TksOk ts:=by
 obtain ⟨vt,vo,h⟩:=h;exact ⟨h.lt,h.sz,h.tk.1⟩
theorem fr_set {B br:Nat} {w w':World} (h:Fr B br w w') {a:Addr} (ha:B≤a.block) (u:Value):Fr B br w (w'.setCell a u) :=
 ⟨h.os,h.tape,h.output,by simpa [World.setCell] using h.size,fun k hk hn=>by rw [Below.heap_setCell _ _ _ _ (by rintro rfl;omega)];exact h.block k hk hn⟩
theorem fr_below {B br:Nat} {w w1 w':World} (h:Fr B br w w1) (hB:B≤w1.heap.size) (hb:Below w1.heap.size w1 w'):Fr B br w w':=h.trans (Fr.below hB hb)
theorem whole_any (B br:Nat) (en:Int) (v:Value) (L:List Df) (ts:List Tk) (w:World) (h:ParAt B br en w ts []) (hl:ts.length≤40000) (hg:good L=true) (hv:∀ w',Fr w.heap.size br w w' → DfsAt w' v L) :
  Calls Tryz.prog 114 #[.pointer (some ⟨br,0,none⟩),v] w (WhPost (wholeL L en ts) br w):=by
 obtain ⟨hs,hn⟩:=good_ok hg
 have hgg:goodGo [] L=true:=by simp only [good,Bool.and_eq_true] at hg;exact hg.2
 have hsm:=good_sm hgg
 obtain ⟨a,cap,rfl⟩:∃ a cap,v=.slice a L.length cap:=by obtain ⟨a,cap,rfl,_⟩:=hv w (Fr.refl _ _ _);exact ⟨a,cap,rfl⟩
 obtain ⟨hlt,hsz,htk⟩:=h.facts
 have h1:ParAt (w.heap.size+1) br en (w.alloc (.cells #[.slice none 0 0] 30)) ts []:=par_raise (parAt_below h (alloc_below _ _)) (by omega) (by simp)
 have hT:=term_any (w.heap.size+1) br en ts.length ts [] _ (Nat.le_refl _) (by simpa using hl) h1
 have hok:=(p_ok ts.length).2.2.2.1 ts [] htk
 obtain ⟨⟨bad,rest,o⟩,hq⟩:∃ q,pTerm ts.length ts []=q:=⟨_,rfl⟩
 rw [hq] at hT hok
 have up:∀ {w1:World},Fr (w.heap.size+1) br (w.alloc (.cells #[.slice none 0 0] 30)) w1 → Fr w.heap.size br w w1∧w1.cell? ⟨w.heap.size,0,none⟩=some (.slice none 0 0)∧w1.frozen? ⟨w.heap.size,0,none⟩=false∧w.heap.size<w1.heap.size:=fun hF=>by
  have hz:=hF.size
  simp only [World.size_alloc] at hz
  refine ⟨(Fr.below (Nat.le_refl _) (alloc_below _ _)).trans (hF.lower (by omega)),(hF.cell (by omega) (by omega)).trans (by simp),(World.frozen?_of_block (w:=w.alloc (.cells #[.slice none 0 0] 30)) (hF.block w.heap.size (by omega) (by omega))).trans (by simp),by omega⟩
 cases bad with
 | true =>
  have HE:Hid (wholeL L en ts=.error (posAt rest en,4)):=(show _=_ by unfold wholeL;rw [hq])
  clear hq hok
  go_enter Tryz.func114,Tryz.ntmps114
  go_wp2_with (go_at_call 112;refine hT.mono ?_;rintro e w1 ⟨hp1,hf1,hl1,hs1,rfl⟩;rw [show resV en ⟨true,rest,o⟩=errV (posAt rest en,4) from rfl];simp only [errV];obtain ⟨hF,r0,rf,hz1⟩:=up hf1)
  refine bodyPost_ret (v:=.tuple #[.agg #[.slice none 0 0],errV (posAt rest en,4)]) (by simp [results,Tryz.results114,go_sem,errV,hz1,r0,rf]) rfl ?_
  rw [HE.out]
  exact ⟨rfl,fr_set hF (by simp) _⟩
 | false =>
  cases rest with
  | cons t r =>
   have HE:Hid (wholeL L en ts=.error (posAt (t :: r) en,4)):=(show _=_ by unfold wholeL;rw [hq];simp)
   clear hq hok
   go_enter Tryz.func114,Tryz.ntmps114
   go_wp2_with (first|(go_at_call 112;refine hT.mono ?_;rintro e w1 ⟨hp1,hf1,hl1,hs1,rfl⟩;rw [show resV en ⟨false,t :: r,o⟩=.nilIface from rfl];obtain ⟨hF,r0,rf,hz1⟩:=up hf1;obtain ⟨vt1,vo1,hv1⟩:=id hp1;obtain ⟨b1,o1,c1,rfl,hc1,_⟩:=hv1.tk.head;have k0:=hv1.c0;clear hv1)|(go_at_call 176;refine (wrong_any _ br en (t :: r) o _ hp1).mono ?_;rintro e w2 ⟨rfl,rfl⟩;simp only [errV]))
   refine bodyPost_ret (v:=.tuple #[.agg #[.slice none 0 0],errV (posAt (t :: r) en,4)]) (by simp [results,Tryz.results114,go_sem,errV,hz1,r0,rf]) rfl ?_
   rw [HE.out]
   exact ⟨rfl,fr_set hF (by simp) _⟩
  | nil =>
   obtain ⟨nw,e1,e2,e3⟩:=hok.new rfl
   simp only [List.nil_append] at e1
   subst e1
   obtain ⟨rr,hrr⟩:∃ rr,chkR (leafT L) o=rr:=⟨_,rfl⟩
   have HE:Hid (wholeL L en ts=rr):=(show _=_ by unfold wholeL;rw [hq,← hrr,chkR_good hg];simp [chkR];rfl)
   have HP:=Lib.hid (And.intro e3 (e2 0))
   clear hq hok e2 e3
   have hchk:∀ (w1:World) (vo:Value),Fr w.heap.size br w w1 → RdsAt w1 vo o → o.length≤40000 → Calls Tryz.prog 113 #[.slice a L.length cap,vo] w1 (TmPost rr w1):=fun w1 vo hF hr hlo=>by
    rw [← hrr]
    exact checked_any _ vo L o w1 (hv w1 hF) hn hs hsm hr hlo HP.out.1 HP.out.2
   cases rr with
   | error p =>
    clear hrr
    go_enter Tryz.func114,Tryz.ntmps114
    go_wp2_with (first|(go_at_call 112;refine hT.mono ?_;rintro e w1 ⟨hp1,hf1,hl1,hs1,rfl⟩;rw [show resV en ⟨false,[],o⟩=.nilIface from rfl];obtain ⟨hF,r0,rf,hz1⟩:=up hf1;obtain ⟨vt1,vo1,hv1⟩:=id hp1;obtain ⟨a1,c1,rfl,hc1⟩:=hv1.tk.shape;have k0:=hv1.c0;have k2:=hv1.c2;have hrd:=rds_own hv1.own;obtain ⟨ao,co,rfl⟩:=owns_shape hv1.own;clear hv1)|(go_at_call 113;refine (hchk _ _ hF hrd (by simp at hs1;omega)).mono ?_;rintro e w2 ⟨rfl,hb2⟩;simp only [errV];have y0:=cell_keep hb2 r0;have yf:=(hb2.frozen (p:=⟨w.heap.size,0,none⟩) (by simpa using hz1)).trans rf;have hz2:=hb2.size;have hz3:w.heap.size<w2.heap.size:=by omega))
    refine bodyPost_ret (v:=.tuple #[.agg #[.slice none 0 0],errV p]) (by simp [results,Tryz.results114,go_sem,errV,hz3,y0,yf]) rfl ?_
    rw [HE.out]
    exact ⟨rfl,fr_set (fr_below hF (by omega) hb2) (by simp) _⟩
   | ok ns =>
    clear hrr
    go_enter Tryz.func114,Tryz.ntmps114
    go_wp2_with (first|(go_at_call 112;refine hT.mono ?_;rintro e w1 ⟨hp1,hf1,hl1,hs1,rfl⟩;rw [show resV en ⟨false,[],o⟩=.nilIface from rfl];obtain ⟨hF,r0,rf,hz1⟩:=up hf1;obtain ⟨vt1,vo1,hv1⟩:=id hp1;obtain ⟨a1,c1,rfl,hc1⟩:=hv1.tk.shape;have k0:=hv1.c0;have k2:=hv1.c2;have hrd:=rds_own hv1.own;obtain ⟨ao,co,rfl⟩:=owns_shape hv1.own;clear hv1)|(go_at_call 113;refine (hchk _ _ hF hrd (by simp at hs1;omega)).mono ?_;rintro e w2 ⟨vb,rfl,hob,hb2⟩;obtain ⟨ab,cb,rfl⟩:=hob.slice;have y0:=cell_keep hb2 r0;have yf:=(hb2.frozen (p:=⟨w.heap.size,0,none⟩) (by simpa using hz1)).trans rf;have hz2:=hb2.size;have hz3:w.heap.size<w2.heap.size:=by omega))
    refine bodyPost_ret (v:=.tuple #[.agg #[.slice ab ns.length cb],.nilIface]) (by simp [results,Tryz.results114,go_sem,hz3,y0,yf]) rfl ?_
    rw [HE.out]
    exact ⟨_,rfl,(hob.setLow (by simp;omega) _).mono (by omega),fr_set (fr_below hF (by omega) hb2) (by simp) _⟩
end Go.Proofs.YtbljmfcifljkaaaGreatDoor
/-
  The program's parseDef. Own work.
-/
namespace Go.Proofs.YtbljmfcifljkaaaGreatDoor
open Go.RowKit
theorem tks_at {w:World} {B:Nat} {v:Value} {ts:List Tk} (h:TksOwn w B v ts) (hok:TksOk ts):TksAt w v ts:=by
 refine ⟨hok,owns_slat h _ fun i b o hi hc=>⟨hi,?_⟩⟩
 have g:∀ j,j<3 → w.cell? ⟨b,o+j,none⟩=(tkCells ts[i])[j]?:=fun j hj=>(hc j hj).trans (flat_get tkCells_len ts i j hi hj)
 exact ⟨g 0 (by omega),g 1 (by omega),g 2 (by omega)⟩
theorem par_start {w:World} {B:Nat} {v:Value} {ts:List Tk} {en:Int} (h:TksOwn w B v ts) (hok:TksOk ts) (w':World) (hb:Below (w.heap.size+1) (w.alloc (.cells #[v,.int .i64 en,.slice none 0 0] 161)) w') :
  ParAt (w.heap.size+1) w.heap.size en w' ts []:=by
 have hb0:Below (w.alloc (.cells #[v,.int .i64 en,.slice none 0 0] 161)).heap.size (w.alloc (.cells #[v,.int .i64 en,.slice none 0 0] 161)) w':=hb.mono (by simp)
 refine ⟨v,.slice none 0 0,by omega,by have:=hb.size;simpa using this,cell_keep hb0 (by simp),cell_keep hb0 (by simp),cell_keep hb0 (by simp),fun i=>(hb0.frozen (p:=⟨w.heap.size,i,none⟩) (by simp)).trans (by simp),((tks_at h hok).keep (alloc_below _ _)).keep hb0,?_,⟨by simp,.inl ⟨rfl,rfl⟩⟩,fun _=>rfl⟩
 rintro b o n c rfl
 rcases h.2 with ⟨e,_⟩|⟨g,cap,cur,e,_,hg,_⟩
 ·cases e
 ·cases e
  have:=(Array.getElem?_eq_some_iff.1 hg).1
  omega
theorem par_other {T:Nat → Prop} {B br:Nat} {en:Int} {w w':World} {ts:List Tk} (h:ParAt B br en w ts []) (hE:Exc T w w') (hT:∀ k,T k → B≤k):ParAt B br en w' ts []:=by
 obtain ⟨vt,vo,h⟩:=h
 obtain rfl:=h.nil rfl
 exact ⟨vt,_,par_exc h hE (fun k hk=>⟨hT k hk,by simp [Value.ownBlock]⟩)⟩
theorem below_of_exc {br B:Nat} {w w':World} (h:Exc (fun k=>k=br) w w') (hB:B≤br) (hw:B≤w.heap.size):Below B w w':=below_exc h hw (fun k hk=>by omega)
theorem below_of_fr {br B B':Nat} {w w':World} (h:Fr B' br w w') (hB:B≤br) (hw:B≤B'):Below B w w':=⟨h.os,h.tape,h.output,h.size,fun k hk=>h.block k (by omega) (by omega)⟩
theorem isSymS_eq (ts:List Tk) (b:UInt8):isSymS ts ⟨#[b]⟩=isSym ts b:=by cases ts <;> rfl
end Go.Proofs.YtbljmfcifljkaaaGreatDoor
/-
  The program's ParseDef. Own work.
-/
namespace Go.Proofs.YtbljmfcifljkaaaGreatDoor
open Go.RowKit
theorem nds_none (w:World) (B:Nat):NdsOwn w B (.slice none 0 0) []:=⟨by simp,.inl ⟨rfl,rfl⟩⟩
end Go.Proofs.YtbljmfcifljkaaaGreatDoor
