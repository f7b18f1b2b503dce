/-
  The walk of checked: the nodes that have been read, typed one by one. Own work.
-/
import Derived.Test.YtikgblkfmpecfaaGreatDoorWBB
import Derived.Test.YtikgblkfmpecfaaGreatDoorWAA
import Derived.Test.YtikgblkfmpecfaaGreatDoorWE
import Derived.Test.YtikgblkfmpecfaaGreatDoorWA
import Derived.Test.YtikgblkfmpecfaaGreatDoorWG
set_option linter.all false
set_option maxRecDepth 100000
set_option maxHeartbeats 8000000
namespace Go.Proofs.YtikgblkfmpecfaaGreatDoor
open Go.RowKit
def I_ (w:World) (x:Nd×Int) (b o:Nat):Prop :=
 w.cell? ⟨b,o,none⟩=some (.int .i64 x.1.kind)/\w.cell? ⟨b,o+1,none⟩=some (.int .i64 x.1.value)/\w.cell? ⟨b,o+2,none⟩=some (.string x.1.name)/\w.cell? ⟨b,o+3,none⟩=some (.int .i64 x.2)
def Dy (w:World) (v:Value) (aC:Rd):Prop:=iT 4 v aC.length λi b o=>∃h:i<aC.length,I_ w aC[i] b o
theorem I_.keep {w w':World} (hb:Below w.heap.size w w') {x:Nd×Int} {b o:Nat} (h:I_ w x b o):I_ w' x b o:=⟨ak hb h.1,ak hb h.2.1,ak hb h.2.2.1,ak hb h.2.2.2⟩
theorem Dy.keep {w w':World} (hb:Below w.heap.size w w') {v:Value} {aC:Rd} (h:Dy w v aC):Dy w' v aC:=iT.mono h λ_ _ _ ⟨hi,r⟩=>⟨hi,r.keep hb⟩
theorem U3 {w:World} {B:Nat} {v:Value} {aC:Rd} (h:w.ownsRow B 234 4 v aC.length (aC.flatMap iV)):Dy w v aC:=by
 refine yw h _ λi b o hi hc=>⟨hi,?_⟩
 have g:∀j,j<4->w.cell? ⟨b,o+j,none⟩=(iV aC[i])[j]?:=λj hj=>(hc j hj).trans (flat_get aa9 aC i j hi hj);exact⟨g 0 (by omega),g 1 (by omega),g 2 (by omega),g 3 (by omega)⟩
structure NY (leaf:Nd->Option W2) (aC:Rd) (w2 wr:World) (tb:Nat) (vs:Value) (k:Nat) (st:List W2):Prop where
 bel:Below w2.heap.size w2 wr
 lo:w2.heap.size<tb
 sz:tb<wr.heap.size
 yP:∃vn,wr.cell? ⟨tb,0,none⟩=some vn/\au wr (tb+1) vn ((aC.take k).map Prod.fst)
 fz:wr.frozen? ⟨tb,0,none⟩=false
 stk:wr.ownsRow w2.heap.size 132 2 vs st.length (st.flatMap jX)
 ap:vs.ownBlock≠some tb
 sm:∀x∈st,Sm x
 hgo:Hid (dG leaf aC 0 []=dG leaf (aC.drop k) k st.reverse)
 wf:Hid (f_ (aC.drop k) st.length=some 1)
 len:st.length<=k
def mW (leaf:Nd->Option W2) (aC:Rd):Except (Int×Int) (List Nd):=match dG leaf aC 0 []with
 | some p=>.error p
 | none=>.ok (aC.map Prod.fst)
def U4 (r:Except (Int×Int) (List Nd)) (w:World) (e:Ending) (w':World):Prop :=
 match r with
 | .ok ns=>∃v,e=.returned (.tuple #[.agg #[v],.nilIface])/\au w' w.heap.size v ns/\Below w.heap.size w w'
 | .error p=>e=.returned (.tuple #[.agg #[.slice none 0 0],bD p])/\Below w.heap.size w w'
structure abC (aC:Rd) (w2 wr w4:World) (tb:Nat) (vs vn v':Value) (k:Nat) (x:Nd×Int) (st:List W2):Prop where
 bel:Below w2.heap.size w2 w4
 lo:w2.heap.size<tb
 sz:tb<wr.heap.size
 sz4:wr.heap.size+2<w4.heap.size
 own:w4.ownsRow (tb+1) 87 3 v' (k+1) (((aC.take (k+1)).map Prod.fst).flatMap d_)
 stk:w4.ownsRow w2.heap.size 132 2 vs st.length (st.flatMap jX)
 slo:∀j,vs.ownBlock=some j->j<wr.heap.size
 ctb:w4.cell? ⟨tb,0,none⟩=some vn
 fz:w4.frozen? ⟨tb,0,none⟩=false
 n0:w4.cell? ⟨wr.heap.size+1,0,none⟩=some (.int .i64 x.1.kind)
 n1:w4.cell? ⟨wr.heap.size+1,1,none⟩=some (.int .i64 x.1.value)
 n2:w4.cell? ⟨wr.heap.size+1,2,none⟩=some (.string x.1.name)
 p3:w4.cell? ⟨wr.heap.size,3,none⟩=some (.int .i64 x.2)
theorem U5 {leaf:Nd->Option W2} {aC:Rd} {w2 wr w4:World} {tb:Nat} {vs vn v':Value} {k:Nat} {st:List W2} (hst:NY leaf aC w2 wr tb vs k st) (hlt:k<aC.length) {t1 t2 t3:TypeId} {c3:Array Value}
  (hvn:wr.cell? ⟨tb,0,none⟩=some vn) (hown:au wr (tb+1) vn ((aC.take k).map Prod.fst))
  (h4:w4.ownsRow (tb+1) 87 3 v' (k+1) (((aC.take k).map Prod.fst).flatMap d_++d_ aC[k].1))
  (hg:(((wr.alloc (.cells #[.int .i64 aC[k].1.kind,.int .i64 aC[k].1.value,.string aC[k].1.name,.int .i64 aC[k].2] t1)).alloc (.cells #[.int .i64 aC[k].1.kind,.int .i64 aC[k].1.value,.string aC[k].1.name] t2)).alloc (.cells c3 t3)).grownBy w4 vn.ownBlock) :
  abC aC w2 wr w4 tb vs vn v' k aC[k] st:=by
 have hsz:=hst.sz;have hlo0:=hst.lo;have hlo:∀j,vn.ownBlock=some j->tb+1<=j/\j<wr.heap.size:=λj hj=>World.ownsRow.lt hown j hj;have hW3:Below wr.heap.size wr (((wr.alloc (.cells #[.int .i64 aC[k].1.kind,.int .i64 aC[k].1.value,.string aC[k].1.name,.int .i64 aC[k].2] t1)).alloc (.cells #[.int .i64 aC[k].1.kind,.int .i64 aC[k].1.value,.string aC[k].1.name] t2)).alloc (.cells c3 t3)):=(((Below.refl _ _).alloc (Nat.le_refl _) _).alloc (by simp) _).alloc (by simp;omega) _;have hE:=(ah.refl (λj=>vn.ownBlock=some j) _).grown hg (λj hj=>.inr hj);have z4:=hE.size;simp only[World.size_alloc]at z4;obtain⟨hc,hf⟩:=hE.cell;simp only[World.size_alloc]at hc hf;have ne:∀b,(b<=tb\/wr.heap.size<=b)->¬vn.ownBlock=some b:=λb hb e=>by have:=hlo b e;omega
 refine⟨?_,hlo0,hsz,by omega,?_,?_,λj hj=>(World.ownsRow.lt hst.stk j hj).2,?_,?_,?_,?_,?_,?_⟩
 ·exact(hst.bel.trans (hW3.mono (by omega))).grown hg (by simp;omega) (λj hj=>by have:=hlo j hj;omega)
 ·rw[List.take_succ_eq_append_getElem hlt,List.map_append,List.flatMap_append];simpa using h4
 ·exact gV hE (bW hW3 hst.stk) (λj hj hv=>oG hst.stk hown (by decide) j hj hv)
 ·rw[hc _ _ (by omega) (ne _ (by omega)),hW3.cell (p:=⟨tb,0,none⟩) (by simp;omega)];exact hvn
 ·rw[hf _ _ (by omega) (ne _ (by omega)),hW3.frozen (p:=⟨tb,0,none⟩) (by simp;omega)];exact hst.fz
 ·rw[hc _ _ (by omega) (ne _ (by omega))];go_simp
 ·rw[hc _ _ (by omega) (ne _ (by omega))];go_simp
 ·rw[hc _ _ (by omega) (ne _ (by omega))];go_simp
 ·rw[hc _ _ (by omega) (ne _ (by omega))];go_simp
theorem NZ {T:Nat->Prop} {w0 w1:World} {B:Nat} (h:ah T w0 w1) (hB:B<=w0.heap.size) (hT:∀k,T k->B<=k):Below B w0 w1 :=
 ⟨h.os,h.tape,h.output,h.size,λk hk=>h.block k (by omega) (λht=>by have:=hT k ht;omega)⟩
theorem U6 {leaf:Nd->Option W2} {aC:Rd} {w2 w5 w6:World} {tb k n:Nat} {vn vs vs':Value} {xs:List Value} {st':List W2}
  (hbel:Below w2.heap.size w2 w5) (hlo:w2.heap.size<tb) (hsz:tb<w5.heap.size) (htb:w5.cell? ⟨tb,0,none⟩=some vn) (hn:au w5 (tb+1) vn ((aC.take (k+1)).map Prod.fst)) (hfz:w5.frozen? ⟨tb,0,none⟩=false)
  (Dz:w5.ownsRow w2.heap.size 132 2 vs n xs) (hap:vs.ownBlock≠some tb) (hE:ah (λj=>vs.ownBlock=some j) w5 w6)
  (hown:w6.ownsRow w2.heap.size 132 2 vs' st'.length (st'.flatMap jX)) (abD:vs'.ownBlock≠some tb) (hsm:∀x∈st',Sm x)
  (hgo:Hid (dG leaf aC 0 []=dG leaf (aC.drop (k+1)) (k+1) st'.reverse)) (hwf:Hid (f_ (aC.drop (k+1)) st'.length=some 1)) (hlen:st'.length<=k+1):NY leaf aC w2 w6 tb vs' (k+1) st' :=
 ⟨hbel.trans (NZ hE hbel.size (λj hj=>(World.ownsRow.lt Dz j hj).1)),hlo,Nat.lt_of_lt_of_le hsz hE.size,⟨vn,(hE.cell.1 tb 0 hsz hap).trans htb,gV hE hn (λj hj hv=>oG Dz hn (by decide) j hv hj)⟩,
  (hE.cell.2 tb 0 hsz hap).trans hfz,hown,abD,hsm,hgo,hwf,hlen⟩
theorem abE (v vr:Value) (L:List Df) (aC:Rd) (w:World) (hv:aG w v L) (hn:L.length<=1048576) (hs:∀d∈L,dN d) (hsm:∀d∈L,Sm (d.inn,d.out)) (hr:Dy w vr aC) (hrl:aC.length<=40000) (hp:∀x∈aC,yD x.1) (hw:f_ aC 0=some 1) :
  Calls Tryz.prog 154 #[v,vr] w (U4 (mW (b_ L) aC) w):=by
 obtain⟨a,cap,rfl⟩:∃a cap,v=.slice a L.length cap:=by obtain⟨a,cap,rfl,_⟩:=hv;exact⟨a,cap,rfl⟩
 obtain⟨ar,ahg,rfl,hcr,hat⟩:=hr;obtain⟨i0,hi,hz0,hz1,hz2⟩:=info_parts U7;obtain⟨j0,hj,hy0,hy1,hy2⟩:=info_parts I8;have yQ:∀n x,b_ L n=some x->Sm x:=λn x h=>Ja hsm h;have HW:=Lib.hid hw;clear hw;go_enter Tryz.func154,Tryz.ntmps154;go_wp2_with (go_at_call 82;refine(Jb _ L _ (hv.keep (aj _ _)) hn (λd hd=>(hs d hd).1)).mono ?_;rintro e w2⟨bc,rfl,ht2,hbc,hb2⟩)
 have N7:Below w.heap.size w w2:=(aj _ _).trans (hb2.mono (by simp));have hzb:=hb2.size;simp only[World.size_alloc]at hzb hbc;have N8:w2.cell? ⟨w.heap.size,0,none⟩=some (.slice none 0 0):=ak hb2 (by simp);have N9:w2.frozen? ⟨w.heap.size,0,none⟩=false:=(hb2.frozen (p:=⟨w.heap.size,0,none⟩) (by simp)).trans (by simp);obtain⟨tb,N_⟩:∃tb,tb=w2.heap.size+1:=⟨_,rfl⟩
 rw[<-N_];have HTB:=Lib.hid N_;clear N_;go_loopw [7,23] (λv i wr=>∃(k:Nat) (st:List W2),k<=aC.length/\i=.int .i64 k/\NY (b_ L) aC w2 wr tb v k st) (λ_ i _=>aC.length-(intOf i).toNat)
 case atStart =>
  obtain rfl:=HTB.out
  refine⟨0,[],Nat.zero_le _,rfl,(aj _ _).alloc (by simp) _,by simp,by simp,⟨.slice none 0 0,by simp,⟨by simp,.inl ⟨rfl,rfl⟩⟩⟩,by simp,?_,by simp[Value.ownBlock],by simp,(by simp[Hid]:Hid (dG (b_ L) aC 0 []=dG (b_ L) (aC.drop 0) 0 ([]:List W2).reverse)),HW,Nat.le_refl _⟩
  have:=World.ownsRow_lit (base:=w2.heap.size) (size:=2) (e:=132) w2 #[] 0 (Nat.le_refl _) (by unfold maxLen;omega) rfl
  simpa using bW (aj _ _) this
 case round =>
  obtain⟨k,st,hk,rfl,hst⟩:=hrel
  have hbel:=hst.bel
  have hsz:=hst.sz
  have hlo:=hst.lo
  have hbw:Below w.heap.size w wr:=N7.trans (hbel.mono (by omega))
  have r0:wr.cell? ⟨w.heap.size,0,none⟩=some (.slice none 0 0):=ak hbel N8
  have rf:wr.frozen? ⟨w.heap.size,0,none⟩=false:=(hbel.frozen (p:=⟨w.heap.size,0,none⟩) (by simp;omega)).trans N9
  have hsw:w.heap.size<wr.heap.size:=by omega
  by_cases hlt:k<aC.length
  ·obtain⟨b,o,rfl,_,hnd⟩:=hat k hlt
   obtain⟨c0,c1,c2,c3⟩:=hnd.keep hbw
   have hpx:=hp aC[k] (List.getElem_mem _)
   have hnm:aC[k].1.name.size<=1048576:=by have:=hpx.size;omega
   clear hat hnd
   have hdrop:=List.drop_eq_getElem_cons hlt
   have hgo0:=hst.hgo
   have qO:=hst.wf
   by_cases Oa:400<=k
   ·have HT:Hid (mW (b_ L) aC=.error (aC[k].2,1)):=(show _=_ by unfold mW;rw[hgo0.out,hdrop,EZ Oa])
    have gk:(400:Int)<=k:=by omega
    clear hst hgo0 qO hdrop hpx
    go_wp2_with fail
    go_region
    go_wp2
    refine bodyPost_ret (v:=.tuple #[.agg #[.slice none 0 0],bD (aC[k].2,1)]) (by simp[results,Tryz.results154,go_sem,bD,hsw,rf,r0]) rfl ?_
    rw[HT.out]
    refine⟨rfl,?_⟩
    (repeat(first|(with_reducible refine Below.alloc ?_ ?_ _;rotate_left;(first|omega|(simp;done)|(simp;omega)))|(with_reducible refine Below.setCell ?_ ?_ _;rotate_left;(first|exact Nat.le_refl _|(simp;done)|(simp;omega)))|(with_reducible refine Below.drew ?_)));exact hbw
   have gk:¬(400:Int)<=k:=by omega
   obtain⟨vn,htb,hown⟩:=hst.yP
   have hnl:((aC.take k).map Prod.fst).length=k:=by simp;omega
   have yR:wr.ownsRow (tb+1) 87 3 vn k (((aC.take k).map Prod.fst).flatMap d_):=by have:=hown;unfold au at this;rwa [hnl]at this
   obtain⟨an,Fg,rfl⟩:=jc yR
   obtain⟨ns0,hns0⟩:∃ns0,(aC.take k).map Prod.fst=ns0:=⟨_,rfl⟩
   rw[hns0]at hown yR hnl
   have Jc:=Lib.hid hns0
   clear hns0
   by_cases hk1:aC[k].1.kind=15\/aC[k].1.kind=16
   ·have hwl:2<=st.length/\f_ (aC.drop (k+1)) (st.length-1)=some 1:=by
     have h0:=qO.out;rw[hdrop]at h0;unfold f_ at h0;rw[if_pos hk1]at h0;by_cases h2:2<=st.length
     ·rw[if_pos h2]at h0;exact⟨h2,h0⟩
     ·rw[if_neg h2]at h0;cases h0
    obtain⟨st0,p,q,rfl⟩:=Fh st (by omega)
    have Af:Hid (f_ (aC.drop (k+1)) (st0.length+1)=some 1):=(show _=_ by have:=hwl.2;simpa using this)
    have Fj:st0.length+2<=k:=by have:=hst.len;simpa using this
    have rX:=hst.sm
    have hpq:Sm p/\Sm q:=⟨rX p (by simp),rX q (by simp)⟩
    obtain⟨g,cp,rfl,hgc,hgm,hgB,hgs⟩:=ug hst.stk (by simp)
    simp only[List.length_append,List.length_cons,List.length_nil,Nat.zero_add,Nat.reduceAdd]at hgc
    have hap:¬g=tb:=λe=>hst.ap (by simp[Value.ownBlock,e])
    have jO:∀x,gJ aC[k].1.kind p q=some x->Hid (dG (b_ L) aC 0 []=dG (b_ L) (aC.drop (k+1)) (k+1) (st0++[x]).reverse):=λx hx=>(show _=_ by
     rw[hgo0.out,hdrop];have e:(st0++[p,q]).reverse=q::p::st0.reverse:=by simp
     rw[e,CX (by omega) hk1 hx,List.reverse_append];rfl)
    have mX:gJ aC[k].1.kind p q=none->Hid (mW (b_ L) aC=.error (aC[k].2,7)):=λhx=>(show _=_ by
     unfold mW;have e:(st0++[p,q]).reverse=q::p::st0.reverse:=by simp
     rw[hgo0.out,hdrop,e,E5 (by omega) hk1 hx])
    have HJ:=Lib.hid (And.intro (And.intro jO mX) (U8 aC[k].1.kind p q))
    have hkk:((aC[k].1.kind==15)=true)\/((aC[k].1.kind==15)=false/\(aC[k].1.kind==16)=true):=by
     rcases hk1 with h|h<;>simp[h]
    have U9:=hst.fz
    have hk0:k<=1048576:=by omega
    clear hk1 hgo0 qO hdrop hpx jO mX hwl
    rcases hkk with gk|⟨gk,yS⟩
    all_goals
     go_wp2_with (at_builtin;refine oK rfl (.tmp 38) (.tmp 40) 25 rfl (tb+1) 87 j0 _ 3 32 Tryz.underlying25 hj hy0 hy1 hy2 rfl (by decide) (.slice an k Fg) k (ns0.flatMap d_) rfl (((yR.alloc _).alloc _).alloc _) (.slice (some ⟨wr.heap.size+1+1,0,none⟩) 1 1) 1 (d_ aC[k].1) rfl ?c1 ?c2 (by unfold maxLen;omega) (by omega) (by simp;omega) ?_)
     case c1 =>
      refine⟨rfl,.inr ⟨_,1,rfl,?_⟩⟩
      intro j u hj
      match j,hj with
      | 0,hj=>simp[d_]at hj;subst hj;simp only[Addr.add];go_simp
      | 1,hj=>simp[d_]at hj;subst hj;simp only[Addr.add];go_simp
      | 2,hj=>simp[d_]at hj;subst hj;simp only[Addr.add];go_simp
     case c2=>intro u hu;simp[d_]at hu;rcases hu with rfl|rfl|rfl<;>rfl
     intro v' w4 hown4 Fp bF
     obtain⟨a4,c4,rfl⟩:=jc hown4
     have hmid:=U5 hst hlt htb (by rw[Jc.out];exact hown) (by rw[Jc.out];exact hown4) Fp
     clear hown4 Fp bF
     obtain⟨Ag,_,_,m4,xk,Ah,abG,U_,Jd,n0,n1,n2,p3⟩:=hmid
     have Va:=ak Ag N8
     have Vb:=(Ag.frozen (p:=⟨w.heap.size,0,none⟩) (by simp;omega)).trans N9
     have Vd:tb<w4.heap.size:=by omega
     have hbS:∀u,Below w2.heap.size w2 (w4.setCell ⟨tb,0,none⟩ u):=λu=>Ag.setCell (by simp;omega) _
     have htr:=ht2.keep (hbS (.slice a4 (k+1) c4))
     obtain⟨W,iD⟩:∃W,W=w4.setCell ⟨tb,0,none⟩ (.slice a4 (k+1) c4):=⟨_,rfl⟩
     have Je:W.cell? ⟨wr.heap.size+1,0,none⟩=some (.int .i64 aC[k].1.kind):=by rw[iD];go_simp
     have Jf:W.cell? ⟨wr.heap.size,3,none⟩=some (.int .i64 aC[k].2):=by rw[iD];go_simp
     have Jg:W.cell? ⟨w.heap.size,0,none⟩=some (.slice none 0 0):=by rw[iD];go_simp
     have Jh:W.frozen? ⟨w.heap.size,0,none⟩=false:=by rw[iD];go_simp
     have Ob:W.cell? ⟨tb,0,none⟩=some (.slice a4 (k+1) c4):=by rw[iD];go_simp
     have Oc:W.frozen? ⟨tb,0,none⟩=false:=by rw[iD];simpa using Jd
     have xz:W.heap.size=w4.heap.size:=by rw[iD];simp
     have hBW:Below w.heap.size w W:=N7.trans (by rw[iD];exact(hbS _).mono (by omega))
     have hBW2:Below w2.heap.size w2 W:=by rw[iD];exact hbS _
     have Fq:W.ownsRow w2.heap.size 132 2 (.slice (some ⟨g,0,none⟩) (st0.length+2) cp) (st0.length+2) ((st0++[p,q]).flatMap jX):=by
      have h0:=Ah;rw[show(st0++[p,q]).length=st0.length+2 by simp]at h0;rw[iD];exact nG h0 _ _ (by simp[Value.ownBlock];exact hap)
     have Ji:au W (tb+1) (.slice a4 (k+1) c4) ((aC.take (k+1)).map Prod.fst):=by
      have hl:((aC.take (k+1)).map Prod.fst).length=k+1:=by simp;omega
      unfold au;rw[hl,iD];exact nG xk _ _ (λe=>by have:=(World.ownsRow.lt xk _ e).1;simp at this;omega)
     have d0:=gQ rY Fq st0.length 0 (by simp) (by omega)
     have d1:=gQ rY Fq st0.length 1 (by simp) (by omega)
     have d2:=gQ rY Fq (st0.length+1) 0 (by simp) (by omega)
     have d3:=gQ rY Fq (st0.length+1) 1 (by simp) (by omega)
     simp[jX]at d0 d1 d2 d3
     clear hown yR Ah xk hst htr
     go_wp2_with fail
     rw[<-iD]
     obtain⟨nb,hnb⟩:∃nb,nb=wr.heap.size+1:=⟨_,rfl⟩
     rw[<-hnb]at Je ⊢
     have hnbW:nb<W.heap.size:=by omega
     have hpW:wr.heap.size<W.heap.size:=by omega
     have hgW:g<W.heap.size:=by omega
     have htW:tb<W.heap.size:=by omega
     have hwW:w.heap.size<W.heap.size:=by omega
     clear hnb iD n0 n1 n2 p3 Va Vb U_ Jd hbS Vd xz
     have e1:IntKind.i64.wrap ((st0.length:Int)+2-1-1)=(st0.length:Int):=by rw[show(st0.length:Int)+2-1-1=(st0.length:Int)by omega];exact IntWalk.i64_in _ (by omega)
     have e2:((st0.length:Int)+2-1).toNat=st0.length+1:=by omega
     have e3:0<=(st0.length:Int)+2-1/\(st0.length:Int)+2-1<(st0.length:Int)+2:=by omega
     have e4:0<=(st0.length:Int)/\(st0.length:Int)<(st0.length:Int)+2:=by omega
     have e5:1<=(st0.length:Int)+2:=by omega
     refine bC (C:=ah (aQ) _) 2 [0,1,2,3,4,5,6,7,8,9,10,11,12,13,14,15,16,17] (by kernel_rfl) (by kernel_rfl) (ah.grows _ _) (ah.refl _ _) ?_
     iterate 11 (apply ay rfl rfl rfl;(focus intro u hc' hf';go_simp<;>rfl);intro K hK;go_simp;apply hK;clear hK K)
     refine aX rfl rfl rfl (ah.grows _ _) (ah.refl _ _) 138 (λK hK=>?_);apply Exists.intro;refine⟨λw' hw'=>?_,λw' hw' hbw=>?_⟩;(focus go_simp;rfl);refine(Ve _ p q _ hpq.1 hpq.2).mono ?_;rintro e w3⟨rfl,hb3⟩;refine⟨_,rfl,hb3,λhx=>?_⟩;go_simp;apply hK;clear hK K
     iterate 3 (apply ay rfl rfl rfl;(focus intro u hc' hf';go_simp<;>rfl);intro K hK;go_simp;apply hK;clear hK K)
     refine fG rfl rfl rfl (ah.grows _ _) hx (λb=>.pointer (some ⟨b,0,none⟩)) (λK hK=>?_)
     apply Exists.intro
     refine⟨λw' hw'=>?_,λbb w4 hw4 hb4 aI hNb hnb=>?_⟩
     ·go_simp
      rfl
     go_simp
     refine hK _ _ _ ?_
     clear hK K
     refine eH rfl rfl rfl (ah.grows _ _) hw4 (λK hK=>?_)
     intro w5 hw5 hb5
     obtain⟨m0,m1,m2⟩:=made_cell ((hb5.block bb (made_cell aI).2.2).trans aI)
     refine⟨(w5.setCell ⟨bb,0,none⟩ (.int .i64 (dY aC[k].1.kind p q).1.1)).setCell ⟨bb,1,none⟩ (.int .i64 (dY aC[k].1.kind p q).1.2),?_,⟨aB (aB hw5 (.inl hNb) _) (.inl hNb) _,by simp,λj _ hj _=>by rw[Below.heap_setCell _ _ _ _ (λh=>hj (by simp[h])),Below.heap_setCell _ _ _ _ (λh=>hj (by simp[h]))]⟩,?_⟩
     ·go_simp
     go_simp
     refine hK _ _ _ ?_
     clear hK K
     iterate 1 (apply ay rfl rfl rfl;(focus intro u hc' hf';go_simp<;>rfl);intro K hK;go_simp;apply hK;clear hK K)
     refine aK ?_
     obtain⟨w6,hw6⟩:∃w6,w6=(w5.setCell ⟨bb,0,none⟩ (.int .i64 (dY aC[k].1.kind p q).1.1)).setCell ⟨bb,1,none⟩ (.int .i64 (dY aC[k].1.kind p q).1.2):=⟨_,rfl⟩
     rw[<-hw6]
     have hbb:W.heap.size<=bb:=by simpa using hNb
     have hb6:Below W.heap.size W w6:=by
      rw[hw6];exact((((Below.refl _ W).drew.trans (hw5.toBelow.mono (by simp))).setCell hbb _).setCell hbb _)
     have n0:w6.cell? ⟨bb,0,none⟩=some (.int .i64 (dY aC[k].1.kind p q).1.1):=by rw[hw6];go_simp
     have n1:w6.cell? ⟨bb,1,none⟩=some (.int .i64 (dY aC[k].1.kind p q).1.2):=by rw[hw6];go_simp
     have Ai:bb<w6.heap.size:=by rw[hw6];simpa using m2
     clear hw6 hw4 hb4 aI hNb hw5 hb5 m0 m1 m2 hx hb3 d0 d1 d2 d3
     have Vf:=ak hb6 Jf
     have Fv:=ak hb6 Jg
     have Fz:=(hb6.frozen (p:=⟨w.heap.size,0,none⟩) (by simpa using hwW)).trans Jh
     have yz:=hb6.size
     have ywz:w.heap.size<w6.heap.size:=by omega
     have ypz:wr.heap.size<w6.heap.size:=by omega
     cases hj2:(dY aC[k].1.kind p q).2
     ·have HT:Hid (mW (b_ L) aC=.error (aC[k].2,7)):=HJ.out.1.2 (by rw[<-HJ.out.2,if_neg (by simp[hj2])])
      clear HJ hj2
      go_wp2_with fail
      go_region
      go_wp2
      refine bodyPost_ret (v:=.tuple #[.agg #[.slice none 0 0],bD (aC[k].2,7)]) (by simp[results,Tryz.results154,go_sem,bD,ywz,Fz,Fv]) rfl ?_
      rw[HT.out]
      refine⟨rfl,?_⟩
      (repeat(first|(with_reducible refine Below.alloc ?_ ?_ _;rotate_left;(first|omega|(simp;done)|(simp;omega)))|(with_reducible refine Below.setCell ?_ ?_ _;rotate_left;(first|exact Nat.le_refl _|(simp;done)|(simp;omega)))|(with_reducible refine Below.drew ?_)));exact hBW.trans (hb6.mono (by omega))
     ·have Aj:gJ aC[k].1.kind p q=some (dY aC[k].1.kind p q).1:=by rw[<-HJ.out.2,if_pos hj2]
      have hgo:=HJ.out.1.1 _ Aj
      have hxs:=Oe hpq.1 hpq.2 Aj
      clear HJ hj2 Aj
      generalize(dY aC[k].1.kind p q).1=x at *
      have e6:0<=(st0.length:Int)/\(st0.length:Int)<=(cp:Int):=by omega
      have hbg:¬bb=g:=by omega
      have hown6:w6.ownsRow w2.heap.size 132 2 (.slice (some ⟨g,0,none⟩) st0.length cp) st0.length (st0.flatMap jX):=by
       have h0:=uh (bW hb6 Fq) st0.length (by omega);rw[List.flatMap_append,List.take_left' (by have:=flat_length rY st0;omega)]at h0;exact h0
      go_wp2_with fail
      refine bC (C:=ah ((λj=>j=g)) _) 2 [0,1,2,3,4,5,6,7] (by kernel_rfl) (by kernel_rfl) (ah.grows _ _) (ah.refl _ _) ?_
      iterate 4 (apply fF rfl rfl rfl;(focus intro u hc' hf';(try simp only[World.size_drew]at hc' hf');go_simp<;>rfl);intro K hK;go_simp;apply hK;clear hK K)
      refine qK rfl rfl rfl (λK hK=>?_)
      apply Exists.intro
      refine⟨λw' hw'=>?_,?_⟩
      ·obtain⟨vI,hf9⟩:=hw'.cell
       have hq:=vI bb 0 (by simp;exact Ai) hbg
       have hq1:=vI bb 1 (by simp;exact Ai) hbg
       go_simp
       rfl
      go_simp
      refine hK _ _ _ ?_
      clear hK K
      refine fG rfl rfl rfl (ah.grows _ _) (ah.refl _ _) (λb=>.slice (some ⟨b,0,none⟩) 1 1) (λK hK=>?_)
      apply Exists.intro
      refine⟨λw' hw'=>?_,λb7 w7 hw7 hb7 aI hNb hnb=>?_⟩
      ·go_simp
       rfl
      go_simp
      refine hK _ _ _ ?_
      clear hK K
      refine zZ rfl rfl rfl hw7 _ _ 190 rfl w2.heap.size 132 i0 2 Tryz.underlying190 hi hz1 g st0.length cp (st0.flatMap jX) rfl (by simp;omega) rfl ⟨b7,0,none⟩ 1 1 [.int .i64 x.1,.int .i64 x.2] rfl rfl ?d1 (by omega) ?d2 ?_
      case d1=>intro u hu;simp at hu;rcases hu with rfl|rfl<;>rfl
      case d2 =>
       intro w8 hw8 hb8
       refine⟨bW hb8 (bW hb7 hown6.drew),?_⟩
       obtain⟨m0,m1,m2⟩:=made_cell ((hb8.block b7 (made_cell aI).2.2).trans aI)
       intro j u hj
       match j,hj with
       | 0,hj=>simp at hj;subst hj;simp[Addr.add,m0]
       | 1,hj=>simp at hj;subst hj;simp[Addr.add,m0]
      intro K hK w8 w9 hw8 hb8 g_ iK eu
      go_simp
      refine hK _ _ _ ?_
      clear hK K
      iterate 1 (apply fF rfl rfl rfl;(focus intro u hc' hf';(try simp only[World.size_drew]at hc' hf');go_simp<;>rfl);intro K hK;go_simp;apply hK;clear hK K)
      refine aK ?_
      have jD:ah (λj=>(Value.slice (some ⟨g,0,none⟩) st0.length cp).ownBlock=some j) w6 w9:=(Below.exc (((Below.refl w6.heap.size w6).drew.trans (hb7.mono (by simp))).trans (hb8.mono (by have:=hb7.size;simpa using this)))).grown iK (λj hj=>.inr (by simpa[Value.ownBlock]using hj))
      have uj:=U6 (st':=st0++[x]) (vs:=.slice (some ⟨g,0,none⟩) st0.length cp) (hBW2.trans (hb6.mono hBW2.size)) hlo (by omega) (ak hb6 Ob) (au.keep hb6 Ji) ((hb6.frozen (p:=⟨tb,0,none⟩) (by simpa using htW)).trans Oc) hown6 (by simp[Value.ownBlock];exact hap) jD (by rw[List.length_append,List.flatMap_append];exact g_)
       (by simp[Value.ownBlock];exact hap) (λy hy=>by rcases List.mem_append.1 hy with hy|hy;exact rX y (by simp[hy]);(simp at hy;subst hy;exact hxs)) hgo (by simpa using Af) (by simp;omega)
      clear g_ iK eu hb8 hw8 hb7 hw7 hown6 jD hgo hxs
      go_wp2
      go_roundw
      case rel=>exact⟨k+1,_,by omega,by go_num,uj⟩
      case measure=>simp[intOf];omega
   ·have g15:(aC[k].1.kind==15)=false:=by simp;omega
    have g16:(aC[k].1.kind==16)=false:=by simp;omega
    have U9:=hst.fz
    have hk0:k<=1048576:=by omega
    go_wp2_with (at_builtin;refine oK rfl (.tmp 38) (.tmp 40) 25 rfl (tb+1) 87 j0 _ 3 32 Tryz.underlying25 hj hy0 hy1 hy2 rfl (by decide) (.slice an k Fg) k (ns0.flatMap d_) rfl (((yR.alloc _).alloc _).alloc _) (.slice (some ⟨wr.heap.size+1+1,0,none⟩) 1 1) 1 (d_ aC[k].1) rfl ?c1 ?c2 (by unfold maxLen;omega) (by omega) (by simp;omega) ?_)
    case c1 =>
     refine⟨rfl,.inr ⟨_,1,rfl,?_⟩⟩
     intro j u hj
     match j,hj with
     | 0,hj=>simp[d_]at hj;subst hj;simp only[Addr.add];go_simp
     | 1,hj=>simp[d_]at hj;subst hj;simp only[Addr.add];go_simp
     | 2,hj=>simp[d_]at hj;subst hj;simp only[Addr.add];go_simp
    case c2=>intro u hu;simp[d_]at hu;rcases hu with rfl|rfl|rfl<;>rfl
    intro v' w4 hown4 Fp bF
    obtain⟨a4,c4,rfl⟩:=jc hown4
    have hmid:=U5 hst hlt htb (by rw[Jc.out];exact hown) (by rw[Jc.out];exact hown4) Fp
    clear hown4 Fp bF
    obtain⟨Ag,_,_,m4,xk,Ah,abG,U_,Jd,n0,n1,n2,p3⟩:=hmid
    have Va:=ak Ag N8
    have Vb:=(Ag.frozen (p:=⟨w.heap.size,0,none⟩) (by simp;omega)).trans N9
    have Vd:tb<w4.heap.size:=by omega
    have hbS:∀u,Below w2.heap.size w2 (w4.setCell ⟨tb,0,none⟩ u):=λu=>Ag.setCell (by simp;omega) _
    have htr:=ht2.keep (hbS (.slice a4 (k+1) c4))
    obtain⟨W,iD⟩:∃W,W=w4.setCell ⟨tb,0,none⟩ (.slice a4 (k+1) c4):=⟨_,rfl⟩
    have Je:W.cell? ⟨wr.heap.size+1,0,none⟩=some (.int .i64 aC[k].1.kind):=by rw[iD];go_simp
    have Jf:W.cell? ⟨wr.heap.size,3,none⟩=some (.int .i64 aC[k].2):=by rw[iD];go_simp
    have Jg:W.cell? ⟨w.heap.size,0,none⟩=some (.slice none 0 0):=by rw[iD];go_simp
    have Jh:W.frozen? ⟨w.heap.size,0,none⟩=false:=by rw[iD];go_simp
    have Ob:W.cell? ⟨tb,0,none⟩=some (.slice a4 (k+1) c4):=by rw[iD];go_simp
    have Oc:W.frozen? ⟨tb,0,none⟩=false:=by rw[iD];simpa using Jd
    have xz:W.heap.size=w4.heap.size:=by rw[iD];simp
    have hBW:Below w.heap.size w W:=N7.trans (by rw[iD];exact(hbS _).mono (by omega))
    rw[<-iD]at htr
    cases hok:(jE L aC[k].1).2
    ·have hlf:b_ L aC[k].1=none:=by simp[b_,hok]
     have yT:=Lib.hid hok
     by_cases h17:aC[k].1.kind=17
     ·have HT:Hid (mW (b_ L) aC=.error (aC[k].2,5)):=(show _=_ by unfold mW;rw[hgo0.out,hdrop,CZ (by omega) hk1 hlf,if_pos h17])
      have g17:(aC[k].1.kind==17)=true:=by simp[h17]
      clear hok hlf h17 hk1 hst hgo0 qO hdrop hpx Ah xk hown yR
      go_wp2_with (go_at_call 139;rw[<-iD];refine(FB aC[k].1 L bc W htr hnm).mono ?_;rintro e w5⟨rfl,hb5⟩;rw[yT.out];have yn0:=ak hb5 Je;have Vf:=ak hb5 Jf;have Fv:=ak hb5 Jg;have Fz:=(hb5.frozen (p:=⟨w.heap.size,0,none⟩) (by simp;omega)).trans Jh;have y5:=hb5.size;rw[xz]at y5;have z5:w.heap.size<w5.heap.size:=(by omega);have z6:wr.heap.size+1<w5.heap.size:=(by omega);have z8:wr.heap.size<w5.heap.size:=(by omega))
      go_region
      go_wp2
      refine bodyPost_ret (v:=.tuple #[.agg #[.slice none 0 0],bD (aC[k].2,5)]) (by simp[results,Tryz.results154,go_sem,bD,z5,Fz,Fv]) rfl ?_
      rw[HT.out]
      refine⟨rfl,?_⟩
      (repeat(first|(with_reducible refine Below.alloc ?_ ?_ _;rotate_left;(first|omega|(simp;done)|(simp;omega)))|(with_reducible refine Below.setCell ?_ ?_ _;rotate_left;(first|exact Nat.le_refl _|(simp;done)|(simp;omega)))|(with_reducible refine Below.drew ?_)));exact hBW.trans (hb5.mono (by omega))
     ·have HT:Hid (mW (b_ L) aC=.error (aC[k].2,6)):=(show _=_ by unfold mW;rw[hgo0.out,hdrop,CZ (by omega) hk1 hlf,if_neg h17])
      have g17:(aC[k].1.kind==17)=false:=by simp[h17]
      clear hok hlf h17 hk1 hst hgo0 qO hdrop hpx Ah xk hown yR
      go_wp2_with (go_at_call 139;rw[<-iD];refine(FB aC[k].1 L bc W htr hnm).mono ?_;rintro e w5⟨rfl,hb5⟩;rw[yT.out];have yn0:=ak hb5 Je;have Vf:=ak hb5 Jf;have Fv:=ak hb5 Jg;have Fz:=(hb5.frozen (p:=⟨w.heap.size,0,none⟩) (by simp;omega)).trans Jh;have y5:=hb5.size;rw[xz]at y5;have z5:w.heap.size<w5.heap.size:=(by omega);have z6:wr.heap.size+1<w5.heap.size:=(by omega);have z8:wr.heap.size<w5.heap.size:=(by omega))
      go_region
      go_wp2
      refine bodyPost_ret (v:=.tuple #[.agg #[.slice none 0 0],bD (aC[k].2,6)]) (by simp[results,Tryz.results154,go_sem,bD,z5,Fz,Fv]) rfl ?_
      rw[HT.out]
      refine⟨rfl,?_⟩
      (repeat(first|(with_reducible refine Below.alloc ?_ ?_ _;rotate_left;(first|omega|(simp;done)|(simp;omega)))|(with_reducible refine Below.setCell ?_ ?_ _;rotate_left;(first|exact Nat.le_refl _|(simp;done)|(simp;omega)))|(with_reducible refine Below.drew ?_)));exact hBW.trans (hb5.mono (by omega))
    ·have hlf:b_ L aC[k].1=some (jE L aC[k].1).1:=by simp[b_,hok]
     have hx:=yQ _ _ hlf
     obtain⟨x,hxe⟩:∃x,(jE L aC[k].1).1=x:=⟨_,rfl⟩
     rw[hxe]at hx hlf
     have HX:=Lib.hid hxe
     have yT:=Lib.hid hok
     have hgo:Hid (dG (b_ L) aC 0 []=dG (b_ L) (aC.drop (k+1)) (k+1) (st++[x]).reverse):=(show _=_ by
      rw[hgo0.out,hdrop,CY (by omega) hk1 hlf,List.reverse_append];rfl)
     have hwf:Hid (f_ (aC.drop (k+1)) (st++[x]).length=some 1):=(show _=_ by
      have h0:=qO.out;rw[hdrop]at h0;unfold f_ at h0;rw[if_neg hk1]at h0;simpa using h0)
     have Fj:=hst.len
     have rX:=hst.sm
     have hap:=hst.ap
     have Vg:W.ownsRow w2.heap.size 132 2 u7 st.length (st.flatMap jX):=by rw[iD];exact nG Ah _ _ hap
     have Ji:au W (tb+1) (.slice a4 (k+1) c4) ((aC.take (k+1)).map Prod.fst):=by
      have hl:((aC.take (k+1)).map Prod.fst).length=k+1:=by simp;omega
      unfold au;rw[hl,iD];exact nG xk _ _ (λe=>by have:=(World.ownsRow.lt xk _ e).1;simp at this;omega)
     have hBW2:Below w2.heap.size w2 W:=by rw[iD];exact hbS _
     clear hxe hok hlf hk1 hst hgo0 qO hdrop hpx Ah xk hown yR
     go_wp2_with (first|(go_at_call 139;rw[<-iD];refine(FB aC[k].1 L bc W htr hnm).mono ?_;rintro e w5⟨rfl,hb5⟩;rw[yT.out,HX.out];have y5:=hb5.size;rw[xz]at y5;have hs5:=bW hb5 Vg;have z7:w2.heap.size<w5.heap.size:=(by omega))|(at_builtin;refine oK rfl (.tmp 110) (.tmp 112) 190 rfl w2.heap.size 132 i0 _ 2 16 Tryz.underlying190 hi hz0 hz1 hz2 rfl (by decide) u7 st.length (st.flatMap jX) rfl ((hs5.alloc _).alloc _) (.slice (some ⟨w5.heap.size+1,0,none⟩) 1 1) 1 (jX x) rfl ?d1 ?d2 (by unfold maxLen;omega) (by omega) (by simp;omega) ?_))
     case d1 =>
      refine⟨rfl,.inr ⟨_,1,rfl,?_⟩⟩
      intro j u hj
      match j,hj with
      | 0,hj=>simp[jX]at hj;subst hj;simp only[Addr.add];go_simp
      | 1,hj=>simp[jX]at hj;subst hj;simp only[Addr.add];go_simp
     case d2=>intro u hu;simp[jX]at hu;rcases hu with rfl|rfl<;>rfl
     intro v6 w6 hown6 lN dK
     have FC:ah (λj=>Value.ownBlock u7=some j) w5 w6:=(Below.exc (((Below.refl _ _).alloc (Nat.le_refl _) _).alloc (by simp) _)).grown lN (λj hj=>.inr hj)
     have gW:=U6 (st':=st++[x]) (hBW2.trans (hb5.mono hBW2.size)) hlo (by omega) (ak hb5 Ob) (au.keep hb5 Ji) ((hb5.frozen (p:=⟨tb,0,none⟩) (by simp;omega)).trans Oc) hs5 hap FC (by rw[List.length_append,List.flatMap_append];simpa using hown6)
      (λe=>by rcases dK with h|h;exact hap (h.symm.trans e);(rw[h]at e;simp at e;omega)) (λy hy=>by rcases List.mem_append.1 hy with hy|hy;exact rX y hy;(simp at hy;subst hy;exact hx)) hgo hwf (by simp;omega)
     clear hown6 lN dK FC hs5 Vg Ji hgo hwf hb5
     go_wp2
     go_roundw
     case rel=>exact⟨k+1,_,by omega,by go_num,gW⟩
     case measure=>simp[intOf];omega
  ·have hkn:k=aC.length:=by omega
   subst hkn
   obtain⟨vn,htb,hown⟩:=hst.yP
   rw[List.take_length]at hown
   have hgo0:=hst.hgo
   have HT:Hid (mW (b_ L) aC=.ok (aC.map Prod.fst)):=(show _=_ by unfold mW;rw[hgo0.out,List.drop_length];rfl)
   obtain⟨an,Fg,rfl⟩:=hown.slice
   have hne:∀j,(Value.slice an (aC.map Prod.fst).length Fg).ownBlock=some j->¬j=w.heap.size:=λj hj e=>by have:=(World.ownsRow.lt hown j hj).1;omega
   have U9:=hst.fz
   clear hgo0 hat hst
   go_wp2
   refine bodyPost_ret (v:=.tuple #[.agg #[.slice an (aC.map Prod.fst).length Fg],.nilIface]) (by simp[results,Tryz.results154,go_sem,hsw,rf,r0]) rfl ?_
   rw[HT.out]
   refine⟨_,rfl,?_,?_⟩
   ·exact(au.mono (B':=w.heap.size) (by omega) hown) |> λh=>nG h _ _ (λe=>hne _ e rfl)
   ·exact hbw.setCell (by simp) _
theorem abH {B B' br:Nat} {en:Int} {w:World} {ts:List Tk} (h:dM B br en w ts []) (hB:B<=B') (hw:B'<=w.heap.size):dM B' br en w ts []:=by
 obtain⟨vt,vo,h⟩:=h;obtain rfl:=h.nil rfl;exact⟨vt,_,Nat.lt_of_lt_of_le h.lt hB,hw,h.c0,h.c1,h.c2,h.fz,h.tk,λb o n c e=>⟨Nat.lt_of_lt_of_le (h.low b o n c e).1 hB,(h.low b o n c e).2⟩,⟨by simp,.inl ⟨rfl,rfl⟩⟩,λ_=>rfl⟩
theorem abI {B br:Nat} {en:Int} {w w':World} {ts:List Tk} {out:Rd} (h:dM B br en w ts out) (hb:Below w.heap.size w w'):dM B br en w' ts out:=by
 obtain⟨vt,vo,h⟩:=h;exact⟨vt,vo,jV h hb⟩
def Vh (r:Except (Int×Int) (List Nd)) (br:Nat) (w:World) (e:Ending) (w':World):Prop :=
 match r with
 | .ok ns=>∃v,e=.returned (.tuple #[.agg #[v],.nilIface])/\au w' w.heap.size v ns/\Fr w.heap.size br w w'
 | .error p=>e=.returned (.tuple #[.agg #[.slice none 0 0],bD p])/\Fr w.heap.size br w w'
theorem abJ {L:List Df} (hg:good L=true) (aC:Rd):mW (b_ L) aC=mW (aO L) aC:=by
 have hgg:dJ [] L=true:=by simp only[good,Bool.and_eq_true]at hg;exact hg.2
 unfold mW;rw[Nc (Jj (FD hgg)) aC 0 []]
theorem Fr.lower {B B' br:Nat} {w w':World} (h:Fr B br w w') (hB:B'<=B):Fr B' br w w':=⟨h.os,h.tape,h.output,h.size,λk hk hn=>h.block k (by omega) hn⟩
theorem dM.facts {B br:Nat} {en:Int} {w:World} {ts:List Tk} {out:Rd} (h:dM B br en w ts out):br<B/\B<=w.heap.size/\fA ts:=by
 obtain⟨vt,vo,h⟩:=h;exact⟨h.lt,h.sz,h.tk.1⟩
theorem Jk {B br:Nat} {w w':World} (h:Fr B br w w') {a:Addr} (ha:B<=a.block) (u:Value):Fr B br w (w'.setCell a u) :=
 ⟨h.os,h.tape,h.output,by simpa[World.setCell]using h.size,λk hk hn=>by rw[Below.heap_setCell _ _ _ _ (by rintro rfl;omega)];exact h.block k hk hn⟩
theorem Vj {B br:Nat} {w w1 w':World} (h:Fr B br w w1) (hB:B<=w1.heap.size) (hb:Below w1.heap.size w1 w'):Fr B br w w':=h.trans (Fr.below hB hb)
theorem abK (B br:Nat) (en:Int) (v:Value) (L:List Df) (ts:List Tk) (w:World) (h:dM B br en w ts []) (hl:ts.length<=40000) (hg:good L=true) (hv:∀w',Fr w.heap.size br w w'->aG w' v L) :
  Calls Tryz.prog 92 #[.pointer (some ⟨br,0,none⟩),v] w (Vh (kW L en ts) br w):=by
 obtain⟨hs,hn⟩:=Og hg;have hgg:dJ [] L=true:=by simp only[good,Bool.and_eq_true]at hg;exact hg.2
 have hsm:=vJ hgg;obtain⟨a,cap,rfl⟩:∃a cap,v=.slice a L.length cap:=by obtain⟨a,cap,rfl,_⟩:=hv w (Fr.refl _ _ _);exact⟨a,cap,rfl⟩
 obtain⟨hlt,hsz,htk⟩:=h.facts;have h1:dM (w.heap.size+1) br en (w.alloc (.cells #[.slice none 0 0] 27)) ts []:=abH (abI h (aj _ _)) (by omega) (by simp);have hT:=abv (w.heap.size+1) br en ts.length ts [] _ (Nat.le_refl _) (by simpa using hl) h1;have hok:=(CW ts.length).2.2.2.1 ts [] htk;obtain⟨⟨bad,rest,o⟩,hq⟩:∃q,fQ ts.length ts []=q:=⟨_,rfl⟩
 rw[hq]at hT hok;have up:∀{w1:World},Fr (w.heap.size+1) br (w.alloc (.cells #[.slice none 0 0] 27)) w1->Fr w.heap.size br w w1/\w1.cell? ⟨w.heap.size,0,none⟩=some (.slice none 0 0)/\w1.frozen? ⟨w.heap.size,0,none⟩=false/\w.heap.size<w1.heap.size:=λhF=>by
  have hz:=hF.size;simp only[World.size_alloc]at hz;refine⟨(Fr.below (Nat.le_refl _) (aj _ _)).trans (hF.lower (by omega)),(hF.cell (by omega) (by omega)).trans (by simp),(World.frozen?_of_block (w:=w.alloc (.cells #[.slice none 0 0] 27)) (hF.block w.heap.size (by omega) (by omega))).trans (by simp),by omega⟩
 cases bad with
 | true =>
  have HE:Hid (kW L en ts=.error (gU rest en,4)):=(show _=_ by unfold kW;rw[hq])
  clear hq hok
  go_enter Tryz.func92,Tryz.ntmps92
  go_wp2_with (go_at_call 152;refine hT.mono ?_;rintro e w1⟨hp1,hf1,hl1,hs1,rfl⟩;rw[show resV en ⟨true,rest,o⟩=bD (gU rest en,4)from rfl];simp only[bD];obtain⟨hF,r0,rf,hz1⟩:=up hf1)
  refine bodyPost_ret (v:=.tuple #[.agg #[.slice none 0 0],bD (gU rest en,4)]) (by simp[results,Tryz.results92,go_sem,bD,hz1,r0,rf]) rfl ?_
  rw[HE.out]
  exact⟨rfl,Jk hF (by simp) _⟩
 | false =>
  cases rest with
  | cons t r =>
   have HE:Hid (kW L en ts=.error (gU (t::r) en,4)):=(show _=_ by unfold kW;rw[hq];simp)
   clear hq hok
   go_enter Tryz.func92,Tryz.ntmps92
   go_wp2_with (first|(go_at_call 152;refine hT.mono ?_;rintro e w1⟨hp1,hf1,hl1,hs1,rfl⟩;rw[show resV en ⟨false,t::r,o⟩=.nilIface from rfl];obtain⟨hF,r0,rf,hz1⟩:=up hf1;obtain⟨Ak,Vk,hv1⟩:=id hp1;obtain⟨b1,o1,c1,rfl,hc1,_⟩:=hv1.tk.head;have k0:=hv1.c0;clear hv1)|(go_at_call 153;refine(Dp _ br en (t::r) o _ hp1).mono ?_;rintro e w2⟨rfl,rfl⟩;simp only[bD]))
   refine bodyPost_ret (v:=.tuple #[.agg #[.slice none 0 0],bD (gU (t::r) en,4)]) (by simp[results,Tryz.results92,go_sem,bD,hz1,r0,rf]) rfl ?_
   rw[HE.out]
   exact⟨rfl,Jk hF (by simp) _⟩
  | nil =>
   obtain⟨nw,e1,e2,e3⟩:=hok.new rfl
   simp only[List.nil_append]at e1
   subst e1
   obtain⟨rr,hrr⟩:∃rr,mW (b_ L) o=rr:=⟨_,rfl⟩
   have HE:Hid (kW L en ts=rr):=(show _=_ by unfold kW;rw[hq,<-hrr,abJ hg];simp[mW];rfl)
   have HP:=Lib.hid (And.intro e3 (e2 0))
   clear hq hok e2 e3
   have Vl:∀(w1:World) (vo:Value),Fr w.heap.size br w w1->Dy w1 vo o->o.length<=40000->Calls Tryz.prog 154 #[.slice a L.length cap,vo] w1 (U4 rr w1):=λw1 vo hF hr hlo=>by
    rw[<-hrr];exact abE _ vo L o w1 (hv w1 hF) hn hs hsm hr hlo HP.out.1 HP.out.2
   cases rr with
   | error p =>
    clear hrr
    go_enter Tryz.func92,Tryz.ntmps92
    go_wp2_with (first|(go_at_call 152;refine hT.mono ?_;rintro e w1⟨hp1,hf1,hl1,hs1,rfl⟩;rw[show resV en ⟨false,[],o⟩=.nilIface from rfl];obtain⟨hF,r0,rf,hz1⟩:=up hf1;obtain⟨Ak,Vk,hv1⟩:=id hp1;obtain⟨a1,c1,rfl,hc1⟩:=hv1.tk.shape;have k0:=hv1.c0;have k2:=hv1.c2;have hrd:=U3 hv1.own;obtain⟨ao,co,rfl⟩:=jc hv1.own;clear hv1)|(go_at_call 154;refine(Vl _ _ hF hrd (by simp at hs1;omega)).mono ?_;rintro e w2⟨rfl,hb2⟩;simp only[bD];have y0:=ak hb2 r0;have yf:=(hb2.frozen (p:=⟨w.heap.size,0,none⟩) (by simpa using hz1)).trans rf;have hz2:=hb2.size;have hz3:w.heap.size<w2.heap.size:=by omega))
    refine bodyPost_ret (v:=.tuple #[.agg #[.slice none 0 0],bD p]) (by simp[results,Tryz.results92,go_sem,bD,hz3,y0,yf]) rfl ?_
    rw[HE.out]
    exact⟨rfl,Jk (Vj hF (by omega) hb2) (by simp) _⟩
   | ok ns =>
    clear hrr
    go_enter Tryz.func92,Tryz.ntmps92
    go_wp2_with (first|(go_at_call 152;refine hT.mono ?_;rintro e w1⟨hp1,hf1,hl1,hs1,rfl⟩;rw[show resV en ⟨false,[],o⟩=.nilIface from rfl];obtain⟨hF,r0,rf,hz1⟩:=up hf1;obtain⟨Ak,Vk,hv1⟩:=id hp1;obtain⟨a1,c1,rfl,hc1⟩:=hv1.tk.shape;have k0:=hv1.c0;have k2:=hv1.c2;have hrd:=U3 hv1.own;obtain⟨ao,co,rfl⟩:=jc hv1.own;clear hv1)|(go_at_call 154;refine(Vl _ _ hF hrd (by simp at hs1;omega)).mono ?_;rintro e w2⟨vb,rfl,hob,hb2⟩;obtain⟨ab,cb,rfl⟩:=hob.slice;have y0:=ak hb2 r0;have yf:=(hb2.frozen (p:=⟨w.heap.size,0,none⟩) (by simpa using hz1)).trans rf;have hz2:=hb2.size;have hz3:w.heap.size<w2.heap.size:=by omega))
    refine bodyPost_ret (v:=.tuple #[.agg #[.slice ab ns.length cb],.nilIface]) (by simp[results,Tryz.results92,go_sem,hz3,y0,yf]) rfl ?_
    rw[HE.out]
    exact⟨_,rfl,(hob.bY (by simp;omega) _).mono (by omega),Jk (Vj hF (by omega) hb2) (by simp) _⟩
def abL (r:Option Df) (w:World) (e:Ending) (w':World):Prop :=
 match r with
 | some d=>∃v,e=.returned (.tuple #[.agg #[.string d.name,.int .i64 d.inn,.int .i64 d.out,v],.nilIface])/\au w' w.heap.size v d.body/\Below w.heap.size w w'
 | none=>∃p,e=.returned (.tuple #[.agg #[.string ⟨#[]⟩,.int .i64 0,.int .i64 0,.slice none 0 0],bD p])/\Below w.heap.size w w'
theorem vK {w:World} {B:Nat} {v:Value} {ts:List Tk} (h:vg w B v ts) (hok:fA ts):kZ w v ts:=by
 refine⟨hok,yw h _ λi b o hi hc=>⟨hi,?_⟩⟩;have g:∀j,j<3->w.cell? ⟨b,o+j,none⟩=(II ts[i])[j]?:=λj hj=>(hc j hj).trans (flat_get aaC ts i j hi hj);exact⟨g 0 (by omega),g 1 (by omega),g 2 (by omega)⟩
theorem Jl {w:World} {B:Nat} {v:Value} {ts:List Tk} {en:Int} (h:vg w B v ts) (hok:fA ts) (w':World) (hb:Below (w.heap.size+1) (w.alloc (.cells #[v,.int .i64 en,.slice none 0 0] 158)) w') :
  dM (w.heap.size+1) w.heap.size en w' ts []:=by
 have hb0:Below (w.alloc (.cells #[v,.int .i64 en,.slice none 0 0] 158)).heap.size (w.alloc (.cells #[v,.int .i64 en,.slice none 0 0] 158)) w':=hb.mono (by simp);refine⟨v,.slice none 0 0,by omega,by have:=hb.size;simpa using this,ak hb0 (by simp),ak hb0 (by simp),ak hb0 (by simp),λi=>(hb0.frozen (p:=⟨w.heap.size,i,none⟩) (by simp)).trans (by simp),((vK h hok).keep (aj _ _)).keep hb0,?_,⟨by simp,.inl ⟨rfl,rfl⟩⟩,λ_=>rfl⟩;rintro b o n c rfl;rcases h.2 with⟨e,_⟩|⟨g,cap,cur,e,_,hg,_⟩
 ·cases e
 ·cases e;have:=(Array.getElem?_eq_some_iff.1 hg).1;omega
theorem Oh {T:Nat->Prop} {B br:Nat} {en:Int} {w w':World} {ts:List Tk} (h:dM B br en w ts []) (hE:ah T w w') (hT:∀k,T k->B<=k):dM B br en w' ts []:=by
 obtain⟨vt,vo,h⟩:=h;obtain rfl:=h.nil rfl;exact⟨vt,_,UN h hE (λk hk=>⟨hT k hk,by simp[Value.ownBlock]⟩)⟩
theorem rZ {br B:Nat} {w w':World} (h:ah (λk=>k=br) w w') (hB:B<=br) (hw:B<=w.heap.size):Below B w w':=NZ h hw (λk hk=>by omega)
theorem yU {br B B':Nat} {w w':World} (h:Fr B' br w w') (hB:B<=br) (hw:B<=B'):Below B w w':=⟨h.os,h.tape,h.output,h.size,λk hk=>h.block k (by omega) (by omega)⟩
theorem xu (ts:List Tk) (b:UInt8):bJ ts ⟨#[b]⟩=bI ts b:=by cases ts<;>rfl
theorem Vm {L:List Df} {s:ByteArray} {p:Int×Int} (h:iU s=.error p):jJ L s=none:=by unfold jJ;rw[h]
theorem Vo {L:List Df} {s:ByteArray} (h:iU s=.ok []):jJ L s=none:=by unfold jJ;rw[h]
theorem Jm {L:List Df} {s:ByteArray} {t:Tk} {r:List Tk} (h:iU s=.ok (t::r)) (hn:¬(t.kind=1/\bI r 61=true)):jJ L s=none:=by unfold jJ;rw[h];simp only;rw[if_neg hn]
theorem Vp {L:List Df} {s:ByteArray} {t t2:Tk} {r:List Tk} (h:iU s=.ok (t::t2::r)) (hk:t.kind=1) (hn:bI (t2::r) 61=true) :
  jJ L s=match kW L s.size r with
   | .error _=>none
   | .ok ns=>some ⟨t.text,((aS (aO L) ns).getD (0,0)).1,((aS (aO L) ns).getD (0,0)).2,ns⟩:=by
 unfold jJ;rw[h];simp only;rw[if_pos ⟨hk,hn⟩];rfl
theorem aY {w w':World} {a b c d:Value} {t:TypeId} (hb:Below (w.heap.size+1) (w.alloc (.cells #[a,b,c,d] t)) w') :
  w'.cell? ⟨w.heap.size,0,none⟩=some a/\w'.cell? ⟨w.heap.size,1,none⟩=some b/\w'.cell? ⟨w.heap.size,2,none⟩=some c/\w'.cell? ⟨w.heap.size,3,none⟩=some d/\(∀j,w'.frozen? ⟨w.heap.size,j,none⟩=false)/\w.heap.size<w'.heap.size/\Below w.heap.size w w':=by
 refine⟨?_,?_,?_,?_,λj=>?_,by have:=hb.size;simp at this;omega,(aj _ _).trans (hb.mono (by omega))⟩
 ·rw[hb.cell (p:=⟨w.heap.size,0,none⟩) (by simp)];simp
 ·rw[hb.cell (p:=⟨w.heap.size,1,none⟩) (by simp)];simp
 ·rw[hb.cell (p:=⟨w.heap.size,2,none⟩) (by simp)];simp
 ·rw[hb.cell (p:=⟨w.heap.size,3,none⟩) (by simp)];simp
 ·rw[hb.frozen (p:=⟨w.heap.size,j,none⟩) (by simp)];simp
theorem Oi {w1 w3:World} {c:Array Value} {t:TypeId} {a0 a1 a2 a3:Value} {t':TypeId} (hx:ah (λk=>k=w1.heap.size) ((w1.alloc (.cells c t)).alloc (.cells #[a0,a1,a2,a3] t')) w3) :
  w3.cell? ⟨w1.heap.size+1,0,none⟩=some a0/\w3.cell? ⟨w1.heap.size+1,1,none⟩=some a1/\w3.cell? ⟨w1.heap.size+1,2,none⟩=some a2/\w3.cell? ⟨w1.heap.size+1,3,none⟩=some a3/\(∀j,w3.frozen? ⟨w1.heap.size+1,j,none⟩=false)/\w1.heap.size+1<w3.heap.size:=by
 have hz:=hx.size;simp only[World.size_alloc]at hz;refine⟨?_,?_,?_,?_,λj=>?_,by omega⟩
 ·rw[hx.cell.1 _ _ (by simp) (by omega)];go_simp
 ·rw[hx.cell.1 _ _ (by simp) (by omega)];go_simp
 ·rw[hx.cell.1 _ _ (by simp) (by omega)];go_simp
 ·rw[hx.cell.1 _ _ (by simp) (by omega)];go_simp
 ·rw[hx.cell.2 _ _ (by simp) (by omega)];simp
theorem abM (v:Value) (L:List Df) (s:ByteArray) (w:World) (hv:aG w v L) (hg:good L=true) (hs:s.size<=4194304) :
  Calls Tryz.prog 174 #[v,.string s] w (abL (jJ L s) w):=by
 obtain⟨pW,hn⟩:=Og hg;have hgg:dJ [] L=true:=by simp only[good,Bool.and_eq_true]at hg;exact hg.2
 have hsm:=vJ hgg;have FH:=FD hgg;obtain⟨a,cap,rfl⟩:∃a cap,v=.slice a L.length cap:=by obtain⟨a,cap,rfl,_⟩:=hv;exact⟨a,cap,rfl⟩
 have htk:=aaH s (w.alloc (.cells #[.string ⟨#[]⟩,.int .i64 0,.int .i64 0,.slice none 0 0] 101)) hs;cases ht:iU s with
 | error p =>
  rw[ht]at htk
  have HE:Hid (jJ L s=none):=Vm ht
  clear ht
  go_enter Tryz.func174,Tryz.ntmps174
  go_wp2_with (go_at_call 91;refine htk.mono ?_;rintro e w1⟨rfl,hb1⟩;simp only[bD];obtain⟨hc1,hf1,hs1⟩:=bH hb1)
  refine bodyPost_ret (v:=.tuple #[.agg #[.string ⟨#[]⟩,.int .i64 0,.int .i64 0,.slice none 0 0],bD p]) (by simp[results,Tryz.results174,go_sem,bD,hc1,hf1]) rfl ?_
  rw[HE.out]
  refine⟨p,rfl,?_⟩
  (repeat(first|(with_reducible refine Below.alloc ?_ ?_ _;rotate_left;(first|omega|(simp;done)|(simp;omega)))|(with_reducible refine Below.setCell ?_ ?_ _;rotate_left;(first|exact Nat.le_refl _|(simp;done)|(simp;omega)))|(with_reducible refine Below.drew ?_)));exact(aj _ _).trans (hb1.mono (by simp))
 | ok ts =>
  rw[ht]at htk
  obtain⟨hok,htl,_⟩:=IL ht
  by_cases hw:∃t r,ts=t::r/\t.kind=1
  ·obtain⟨t,r,rfl,hk⟩:=hw
   by_cases hy:bJ r ⟨#[61]⟩=true
   ·cases r with
    | nil=>simp[bJ]at hy
    | cons t2 r =>
    have nM:=Vp (L:=L) ht hk (by rw[<-xu];exact hy)
    have hrl:r.length<=40000:=by simp at htl;omega
    obtain⟨rr,hrr⟩:∃rr,kW L s.size r=rr:=⟨_,rfl⟩
    rw[hrr]at nM
    have hty:∀ns,rr=.ok ns->∃x,aS (aO L) ns=some x:=λns e=>Um (ts:=r) hok.tail.tail (hrr.trans e)
    have hwh:∀(br:Nat) (w4:World),dM (br+1) br s.size w4 r []->(∀w',Fr w4.heap.size br w4 w'->aG w' (.slice a L.length cap) L)->Calls Tryz.prog 92 #[.pointer (some ⟨br,0,none⟩),.slice a L.length cap] w4 (Vh rr br w4):=λbr w4 h1 h2=>by
     rw[<-hrr];exact abK (br+1) br s.size _ L r w4 h1 hrl hg h2
    clear hrr ht
    cases rr with
    | error p =>
     have HE:Hid (jJ L s=none):=nM
     clear nM hty
     go_enter Tryz.func174,Tryz.ntmps174
     go_wp2_with (first|(go_at_call 91;refine htk.mono ?_;rintro e w1⟨v1,rfl,ho1,hb1⟩;obtain⟨a1,c1,rfl⟩:=jc ho1;have hB1:Below (w.heap.size+1) (w.alloc (.cells #[.string ⟨#[]⟩,.int .i64 0,.int .i64 0,.slice none 0 0] 101)) w1:=hb1.mono (by simp))|(go_at_call 197;refine(yK _ _ _ t (t2::r) [] _ (Jl ho1 hok _ ((Below.refl _ _).alloc (by simp) _)) hk).mono ?_;rintro e w3⟨rfl,hp3,hx3⟩;obtain⟨d0,d1,d2,d3,df,dz⟩:=Oi hx3;have hB3:Below (w.heap.size+1) (w.alloc (.cells #[.string ⟨#[]⟩,.int .i64 0,.int .i64 0,.slice none 0 0] 101)) w3:=hB1.trans ((((Below.refl _ _).alloc (by have:=hB1.size;simpa using this) _).alloc (by have:=hB1.size;simp at this;simp;omega) _).trans (rZ hx3 (by have:=hB1.size;simpa using this) (by have:=hB1.size;simp at this;simp;omega)));obtain⟨br,hbr⟩:∃br,br=w1.heap.size:=⟨_,rfl⟩;obtain⟨bd,hbd⟩:∃bd,bd=w1.heap.size+1:=⟨_,rfl⟩;rw[<-hbd]at d0 d1 d2 d3 df dz ⊢;rw[<-hbr]at hp3 ⊢;have hbl:br+1<=bd:=(by omega);have hb4:w.heap.size+1<=br:=(by have:=hB1.size;simp at this;omega);clear hbd hbr hx3;have yL:=Oh hp3 (aB (T:=λk=>k=bd) (ah.refl _ _) (.inr rfl) (a:=⟨bd,0,none⟩) (.string t.text)) (λk hk=>by omega);have hB4:Below (w.heap.size+1) (w.alloc (.cells #[.string ⟨#[]⟩,.int .i64 0,.int .i64 0,.slice none 0 0] 101)) (w3.setCell ⟨bd,0,none⟩ (.string t.text)):=hB3.setCell (by simp;omega) _)|(go_at_call 198;refine(Ny _ _ _ t2 r [] _ _ yL hy).mono ?_;rintro e w4⟨rfl,Jo,hx5⟩;have gX:=hB4.trans (rZ hx5 (B:=w.heap.size+1) (by omega) (by simp;omega));have kC:¬bd=br:=(by omega);have f0:w4.cell? ⟨bd,0,none⟩=some (.string t.text):=(hx5.cell.1 bd 0 (by simpa using dz) kC).trans (by go_simp);have f1:w4.cell? ⟨bd,1,none⟩=some (.int .i64 0):=(hx5.cell.1 bd 1 (by simpa using dz) kC).trans (by go_simp);have f2:w4.cell? ⟨bd,2,none⟩=some (.int .i64 0):=(hx5.cell.1 bd 2 (by simpa using dz) kC).trans (by go_simp);have f3:w4.cell? ⟨bd,3,none⟩=some (.slice none 0 0):=(hx5.cell.1 bd 3 (by simpa using dz) kC).trans (by go_simp);have ff:∀j,w4.frozen? ⟨bd,j,none⟩=false:=(λj=>(hx5.cell.2 bd j (by simpa using dz) kC).trans (by simpa using df j));have iY:bd<w4.heap.size:=cell_lt f0;have hup:∀w',Fr w4.heap.size br w4 w'->Below (w.heap.size+1) (w.alloc (.cells #[.string ⟨#[]⟩,.int .i64 0,.int .i64 0,.slice none 0 0] 101)) w'/\w'.cell? ⟨bd,0,none⟩=some (.string t.text)/\w'.cell? ⟨bd,1,none⟩=some (.int .i64 0)/\w'.cell? ⟨bd,2,none⟩=some (.int .i64 0)/\w'.cell? ⟨bd,3,none⟩=some (.slice none 0 0)/\(∀j,w'.frozen? ⟨bd,j,none⟩=false):=(λw' hF=>⟨gX.trans (yU hF (by omega) (by omega)),(hF.cell iY kC).trans f0,(hF.cell iY kC).trans f1,(hF.cell iY kC).trans f2,(hF.cell iY kC).trans f3,λj=>(World.frozen?_of_block (w:=w4) (hF.block bd iY kC)).trans (ff j)⟩))|(go_at_call 92;refine(hwh br _ Jo (λw' hF=>(hv.keep (aj _ _)).keep ((hup w' hF).1.mono (by simp)))).mono ?_;rintro e w5⟨rfl,yV⟩;simp only[bD];obtain⟨dH,g0,g1,g2,g3,gf⟩:=hup _ yV;have gz:=cell_lt g0;obtain⟨r0,r1,r2,r3,rf,hz3,hbw3⟩:=aY dH))
     refine bodyPost_ret (v:=.tuple #[.agg #[.string ⟨#[]⟩,.int .i64 0,.int .i64 0,.slice none 0 0],bD p]) (by simp[results,Tryz.results174,go_sem,bD,r0,r1,r2,r3,rf,hz3]) rfl ?_
     rw[HE.out]
     refine⟨_,rfl,?_⟩
     (repeat(first|(with_reducible refine Below.alloc ?_ ?_ _;rotate_left;(first|omega|(simp;done)|(simp;omega)))|(with_reducible refine Below.setCell ?_ ?_ _;rotate_left;(first|exact Nat.le_refl _|(simp;done)|(simp;omega)))|(with_reducible refine Below.drew ?_)));exact hbw3
    | ok ns =>
     obtain⟨x,hx⟩:=hty ns rfl
     have HE:Hid (jJ L s=some ⟨t.text,x.1,x.2,ns⟩):=(show _=_ by rw[nM];simp[hx])
     have hnl:=Am hx
     have HX:=Lib.hid hx
     clear nM hty hx
     go_enter Tryz.func174,Tryz.ntmps174
     go_wp2_with (first|(go_at_call 91;refine htk.mono ?_;rintro e w1⟨v1,rfl,ho1,hb1⟩;obtain⟨a1,c1,rfl⟩:=jc ho1;have hB1:Below (w.heap.size+1) (w.alloc (.cells #[.string ⟨#[]⟩,.int .i64 0,.int .i64 0,.slice none 0 0] 101)) w1:=hb1.mono (by simp))|(go_at_call 197;refine(yK _ _ _ t (t2::r) [] _ (Jl ho1 hok _ ((Below.refl _ _).alloc (by simp) _)) hk).mono ?_;rintro e w3⟨rfl,hp3,hx3⟩;obtain⟨d0,d1,d2,d3,df,dz⟩:=Oi hx3;have hB3:Below (w.heap.size+1) (w.alloc (.cells #[.string ⟨#[]⟩,.int .i64 0,.int .i64 0,.slice none 0 0] 101)) w3:=hB1.trans ((((Below.refl _ _).alloc (by have:=hB1.size;simpa using this) _).alloc (by have:=hB1.size;simp at this;simp;omega) _).trans (rZ hx3 (by have:=hB1.size;simpa using this) (by have:=hB1.size;simp at this;simp;omega)));obtain⟨br,hbr⟩:∃br,br=w1.heap.size:=⟨_,rfl⟩;obtain⟨bd,hbd⟩:∃bd,bd=w1.heap.size+1:=⟨_,rfl⟩;rw[<-hbd]at d0 d1 d2 d3 df dz ⊢;rw[<-hbr]at hp3 ⊢;have hbl:br+1<=bd:=(by omega);have hb4:w.heap.size+1<=br:=(by have:=hB1.size;simp at this;omega);clear hbd hbr hx3;have yL:=Oh hp3 (aB (T:=λk=>k=bd) (ah.refl _ _) (.inr rfl) (a:=⟨bd,0,none⟩) (.string t.text)) (λk hk=>by omega);have hB4:Below (w.heap.size+1) (w.alloc (.cells #[.string ⟨#[]⟩,.int .i64 0,.int .i64 0,.slice none 0 0] 101)) (w3.setCell ⟨bd,0,none⟩ (.string t.text)):=hB3.setCell (by simp;omega) _)|(go_at_call 198;refine(Ny _ _ _ t2 r [] _ _ yL hy).mono ?_;rintro e w4⟨rfl,Jo,hx5⟩;have gX:=hB4.trans (rZ hx5 (B:=w.heap.size+1) (by omega) (by simp;omega));have kC:¬bd=br:=(by omega);have f0:w4.cell? ⟨bd,0,none⟩=some (.string t.text):=(hx5.cell.1 bd 0 (by simpa using dz) kC).trans (by go_simp);have f1:w4.cell? ⟨bd,1,none⟩=some (.int .i64 0):=(hx5.cell.1 bd 1 (by simpa using dz) kC).trans (by go_simp);have f2:w4.cell? ⟨bd,2,none⟩=some (.int .i64 0):=(hx5.cell.1 bd 2 (by simpa using dz) kC).trans (by go_simp);have f3:w4.cell? ⟨bd,3,none⟩=some (.slice none 0 0):=(hx5.cell.1 bd 3 (by simpa using dz) kC).trans (by go_simp);have ff:∀j,w4.frozen? ⟨bd,j,none⟩=false:=(λj=>(hx5.cell.2 bd j (by simpa using dz) kC).trans (by simpa using df j));have iY:bd<w4.heap.size:=cell_lt f0;have hup:∀w',Fr w4.heap.size br w4 w'->Below (w.heap.size+1) (w.alloc (.cells #[.string ⟨#[]⟩,.int .i64 0,.int .i64 0,.slice none 0 0] 101)) w'/\w'.cell? ⟨bd,0,none⟩=some (.string t.text)/\w'.cell? ⟨bd,1,none⟩=some (.int .i64 0)/\w'.cell? ⟨bd,2,none⟩=some (.int .i64 0)/\w'.cell? ⟨bd,3,none⟩=some (.slice none 0 0)/\(∀j,w'.frozen? ⟨bd,j,none⟩=false):=(λw' hF=>⟨gX.trans (yU hF (by omega) (by omega)),(hF.cell iY kC).trans f0,(hF.cell iY kC).trans f1,(hF.cell iY kC).trans f2,(hF.cell iY kC).trans f3,λj=>(World.frozen?_of_block (w:=w4) (hF.block bd iY kC)).trans (ff j)⟩))|(go_at_call 92;refine(hwh br _ Jo (λw' hF=>(hv.keep (aj _ _)).keep ((hup w' hF).1.mono (by simp)))).mono ?_;rintro e w5⟨vb,rfl,hob,yV⟩;obtain⟨ab,cb,rfl⟩:=hob.slice;obtain⟨dH,g0,g1,g2,g3,gf⟩:=hup _ yV;have gz:=cell_lt g0))
     obtain⟨W,hW⟩:∃W,W=w5.setCell ⟨bd,3,none⟩ (.slice ab ns.length cb):=⟨_,rfl⟩
     rw[<-hW]
     have gff:=gf 3
     have m0:W.cell? ⟨bd,0,none⟩=some (.string t.text):=by rw[hW];go_simp
     have m1:W.cell? ⟨bd,1,none⟩=some (.int .i64 0):=by rw[hW];go_simp
     have m2:W.cell? ⟨bd,2,none⟩=some (.int .i64 0):=by rw[hW];go_simp
     have m3:W.cell? ⟨bd,3,none⟩=some (.slice ab ns.length cb):=by rw[hW];go_simp
     have mf:∀j,W.frozen? ⟨bd,j,none⟩=false:=λj=>by rw[hW];simpa using gf j
     have hBW:Below (w.heap.size+1) (w.alloc (.cells #[.string ⟨#[]⟩,.int .i64 0,.int .i64 0,.slice none 0 0] 101)) W:=by rw[hW];exact dH.setCell (by simp;omega) _
     have Oj:au W w4.heap.size (.slice ab ns.length cb) ns:=by rw[hW];exact hob.bY (by simp;omega) _
     have aU:aG W (.slice a L.length cap) L:=(hv.keep (aj _ _)).keep (hBW.mono (by simp))
     have gzW:bd<W.heap.size:=cell_lt m0
     have hnm:∀d∈ns,d.name.size<=1048576:=λd hd=>by
      have:=Ol (λx hx=>(yE hg x hx).1) HX.out d hd;omega
     clear hW dH yV hob g0 g1 g2 g3 gf gff gz hup f0 f1 f2 f3 ff Jo hx5 yL hp3 gX hB4 hB3 d0 d1 d2 d3 df dz hwh htk
     have jF:∀{w':World},ah aQ W.drew w'->Below W.heap.size W w':=λh=>(Below.refl W.heap.size W).drew.trans (h.toBelow.mono (by simp))
     refine bC (C:=ah (aQ) _) 2 [0,1,2,3,4,5,6,7,8,9,10,11] (by kernel_rfl) (by kernel_rfl) (ah.grows _ _) (ah.refl _ _) ?_
     iterate 4 (apply ay rfl rfl rfl;(focus intro u hc' hf';go_simp<;>rfl);intro K hK;go_simp;apply hK;clear hK K)
     refine aX rfl rfl rfl (ah.grows _ _) (ah.refl _ _) 82 (λK hK=>?_);apply Exists.intro;refine⟨λw' hw'=>?_,λwa dU dS=>?_⟩;(focus go_simp;rfl);refine(Jb _ L _ (aU.keep (jF dU)) hn (λd hd=>(pW d hd).1)).mono ?_;rintro e w6⟨bc,rfl,Vq,hbc,hb6⟩;refine⟨_,rfl,hb6,λhx=>?_⟩;go_simp;apply hK;clear hK K
     refine aX rfl rfl rfl (ah.grows _ _) (hx) 81 (λK hK=>?_);apply Exists.intro;refine⟨λw' hw'=>?_,λwb hwb fB=>?_⟩;(focus go_simp;rfl);refine(Om _ ns L bc _ (Oj.at.keep (jF hwb)) (Vq.keep fB) (by omega) hnm hsm).mono ?_;rintro e w7⟨y,rfl,hy7,hb7⟩;refine⟨_,rfl,hb7,λhx=>?_⟩;go_simp;apply hK;clear hK K
     rw[Oo FH]at *
     obtain rfl:=hy7 x HX.out
     iterate 3 (apply ay rfl rfl rfl;(focus intro u hc' hf';go_simp<;>rfl);intro K hK;go_simp;apply hK;clear hK K)
     refine fG rfl rfl rfl (ah.grows _ _) (hx) (λb=>.pointer (some ⟨b,0,none⟩)) (λK hK=>?_)
     apply Exists.intro
     refine⟨λw' hw'=>?_,λbb w8 hw8 hb8 aI hNb hnb=>?_⟩
     ·obtain⟨hc',hf'⟩:=hw'.cell
      try simp only[World.size_drew]at hc' hf'
      go_simp
      rfl
     go_simp
     refine hK _ _ _ ?_
     clear hK K
     refine eH rfl rfl rfl (ah.grows _ _) hw8 (λK hK=>?_)
     intro w9 eu bG
     obtain⟨k0,k1,k2⟩:=made_cell ((bG.block bb (made_cell aI).2.2).trans aI)
     refine⟨(w9.setCell ⟨bb,0,none⟩ (.int .i64 y.1)).setCell ⟨bb,1,none⟩ (.int .i64 y.2),?_,⟨aB (aB eu (.inl hNb) _) (.inl hNb) _,by simp,λj _ hj _=>by rw[Below.heap_setCell _ _ _ _ (λh=>hj (by simp[h])),Below.heap_setCell _ _ _ _ (λh=>hj (by simp[h]))]⟩,?_⟩
     ·go_simp
     go_simp
     refine hK _ _ _ ?_
     clear hK K
     iterate 1 (apply ay rfl rfl rfl;(focus intro u hc' hf';go_simp<;>rfl);intro K hK;go_simp;apply hK;clear hK K)
     refine aK ?_
     have hbb:W.heap.size<=bb:=by simpa using hNb
     obtain⟨W2,hW2⟩:∃W2,W2=(w9.setCell ⟨bb,0,none⟩ (.int .i64 y.1)).setCell ⟨bb,1,none⟩ (.int .i64 y.2):=⟨_,rfl⟩
     rw[<-hW2]
     have n0:W2.cell? ⟨bb,0,none⟩=some (.int .i64 y.1):=by rw[hW2];go_simp
     have n1:W2.cell? ⟨bb,1,none⟩=some (.int .i64 y.2):=by rw[hW2];go_simp
     have hbW:Below W.heap.size W W2:=by rw[hW2];exact((jF eu).setCell hbb _).setCell hbb _
     have q0:=ak hbW m0
     have q1:=ak hbW m1
     have q2:=ak hbW m2
     have q3:=ak hbW m3
     have qf:∀j,W2.frozen? ⟨bd,j,none⟩=false:=λj=>(hbW.frozen (p:=⟨bd,j,none⟩) (by simpa using gzW)).trans (mf j)
     have qf1:=qf 1
     have qf2:=qf 2
     have abN:=Oj.keep hbW
     have hBW2:Below (w.heap.size+1) (w.alloc (.cells #[.string ⟨#[]⟩,.int .i64 0,.int .i64 0,.slice none 0 0] 101)) W2:=hBW.trans (hbW.mono (by omega))
     have hbz:bd<W2.heap.size:=cell_lt q0
     have ahh:bb<W2.heap.size:=cell_lt n0
     obtain⟨r0,r1,r2,r3,rf,hz3,hbw3⟩:=aY hBW2
     have nrd:¬bd=w.heap.size:=by omega
     have nbd:¬bb=bd:=by omega
     clear hW2 eu bG k0 k1 k2 hw8 hb8 aI hNb hnb hx hb6 hb7 dU hwb dS fB Vq Oj aU hBW m0 m1 m2 m3 mf hbW jF
     go_wp2_with fail
     go_region
     go_wp2
     refine bodyPost_ret (v:=.tuple #[.agg #[.string t.text,.int .i64 y.1,.int .i64 y.2,.slice ab ns.length cb],.nilIface]) (by simp[results,Tryz.results174,go_sem,r0,r1,r2,r3,rf,hz3]) rfl ?_
     rw[HE.out]
     refine⟨_,rfl,?_,?_⟩
     ·have hwz:w.heap.size<w4.heap.size:=by omega
      have h6:au _ w4.heap.size (.slice ab ns.length cb) ns:=(((((abN.bY (a:=⟨bd,1,none⟩) iY (.int .i64 y.1)).bY (a:=⟨bd,2,none⟩) iY (.int .i64 y.2)).bY (a:=⟨w.heap.size,0,none⟩) hwz (.string t.text)).bY (a:=⟨w.heap.size,1,none⟩) hwz (.int .i64 y.1)).bY (a:=⟨w.heap.size,2,none⟩) hwz (.int .i64 y.2)).bY (a:=⟨w.heap.size,3,none⟩) hwz (.slice ab ns.length cb)
      exact au.mono (B:=w4.heap.size) (by omega) (World.ownsRow.drew h6)
     ·(repeat(first|(with_reducible refine Below.alloc ?_ ?_ _;rotate_left;(first|omega|(simp;done)|(simp;omega)))|(with_reducible refine Below.setCell ?_ ?_ _;rotate_left;(first|exact Nat.le_refl _|(simp;done)|(simp;omega)))|(with_reducible refine Below.drew ?_)));exact hbw3
   ·have Oq:bJ r ⟨#[61]⟩=false:=by simpa using hy
    have HE:Hid (jJ L s=none):=Jm ht (λh=>hy (by rw[xu];exact h.2))
    clear ht hy
    go_enter Tryz.func174,Tryz.ntmps174
    go_wp2_with (first|(go_at_call 91;refine htk.mono ?_;rintro e w1⟨v1,rfl,ho1,hb1⟩;obtain⟨a1,c1,rfl⟩:=jc ho1;have hB1:Below (w.heap.size+1) (w.alloc (.cells #[.string ⟨#[]⟩,.int .i64 0,.int .i64 0,.slice none 0 0] 101)) w1:=hb1.mono (by simp))|(go_at_call 197;refine(yK _ _ _ t r [] _ (Jl ho1 hok _ ((Below.refl _ _).alloc (by simp) _)) hk).mono ?_;rintro e w3⟨rfl,hp3,hx3⟩;obtain⟨d0,d1,d2,d3,df,dz⟩:=Oi hx3;have hB3:Below (w.heap.size+1) (w.alloc (.cells #[.string ⟨#[]⟩,.int .i64 0,.int .i64 0,.slice none 0 0] 101)) w3:=hB1.trans ((((Below.refl _ _).alloc (by have:=hB1.size;simpa using this) _).alloc (by have:=hB1.size;simp at this;simp;omega) _).trans (rZ hx3 (by have:=hB1.size;simpa using this) (by have:=hB1.size;simp at this;simp;omega)));obtain⟨bd,hbd⟩:∃bd,bd=w1.heap.size+1:=⟨_,rfl⟩;rw[<-hbd]at d0 d1 d2 d3 df dz ⊢;have hbl:w1.heap.size+1<=bd:=(by omega);have hb4:w.heap.size+1<=bd:=(by have:=hB1.size;simp at this;omega);clear hbd hx3;have yL:=Oh hp3 (aB (T:=λk=>k=bd) (ah.refl _ _) (.inr rfl) (a:=⟨bd,0,none⟩) (.string t.text)) (λk hk=>by omega);obtain⟨r0,r1,r2,r3,rf,hz3,hbw3⟩:=aY hB3)|(go_at_call 198;refine(UL _ _ _ r [] _ _ yL Oq).mono ?_;rintro e w5⟨rfl,rfl⟩;simp only[bD]))
    refine bodyPost_ret (v:=.tuple #[.agg #[.string ⟨#[]⟩,.int .i64 0,.int .i64 0,.slice none 0 0],bD (gU r s.size,4)]) (by simp[results,Tryz.results174,go_sem,bD,r0,r1,r2,r3,rf,hz3]) rfl ?_
    rw[HE.out]
    refine⟨_,rfl,?_⟩
    (repeat(first|(with_reducible refine Below.alloc ?_ ?_ _;rotate_left;(first|omega|(simp;done)|(simp;omega)))|(with_reducible refine Below.setCell ?_ ?_ _;rotate_left;(first|exact Nat.le_refl _|(simp;done)|(simp;omega)))|(with_reducible refine Below.drew ?_)));exact hbw3
  ·have hwn:∀t r,ts=t::r->t.kind≠1:=λt r e h=>hw ⟨t,r,e,h⟩
   have HE:Hid (jJ L s=none):=(show _=_ by
    cases ts with
    | nil=>exact Vo ht
    | cons t r=>exact Jm ht (λh=>hwn t r rfl h.1))
   clear ht hw
   go_enter Tryz.func174,Tryz.ntmps174
   go_wp2_with (first|(go_at_call 91;refine htk.mono ?_;rintro e w1⟨v1,rfl,ho1,hb1⟩;obtain⟨a1,c1,rfl⟩:=jc ho1;obtain⟨r0,r1,r2,r3,rf,hz1,aF⟩:=aY (hb1.mono (by simp));have hz1':¬w.heap.size=w1.heap.size:=(by omega);have ahi:¬w.heap.size=w1.heap.size+1:=(by omega))|(go_at_call 197;refine(Nz _ _ _ ts [] _ (Jl ho1 hok _ ((Below.refl _ _).alloc (by simp) _)) hwn).mono ?_;rintro e w3⟨rfl,rfl⟩;simp only[bD]))
   refine bodyPost_ret (v:=.tuple #[.agg #[.string ⟨#[]⟩,.int .i64 0,.int .i64 0,.slice none 0 0],bD (gU ts s.size,4)]) (by simp[results,Tryz.results174,go_sem,bD,r0,r1,r2,r3,rf,hz1]) rfl ?_
   rw[HE.out]
   refine⟨_,rfl,?_⟩
   (repeat(first|(with_reducible refine Below.alloc ?_ ?_ _;rotate_left;(first|omega|(simp;done)|(simp;omega)))|(with_reducible refine Below.setCell ?_ ?_ _;rotate_left;(first|exact Nat.le_refl _|(simp;done)|(simp;omega)))|(with_reducible refine Below.drew ?_)));exact aF
def um:Df:=⟨⟨#[]⟩,0,0,[]⟩
def DC (r:Option Df) (w:World) (e:Ending) (w':World):Prop :=
 ∃v,e=.returned (.tuple #[.agg #[.string (r.getD um).name,.int .i64 (r.getD um).inn,.int .i64 (r.getD um).out,v],.bool r.isSome])/\au w' w.heap.size v (r.getD um).body/\Below w.heap.size w w'
def qP (L:List Df) (s:ByteArray):Option Df:=if good L then dX L s else none
theorem Vr {L:List Df} {s:ByteArray} {d:Df} (h:jJ L s=some d):d.name.size<=40000:=by
 unfold jJ at h;cases ht:iU s with
 | error p=>rw[ht]at h;cases h
 | ok ts =>
  rw[ht]at h
  have hok:=(IL ht).1
  cases ts with
  | nil=>cases h
  | cons t r =>
   simp only at h
   split at h
   ·cases hw:kW L s.size r.tail with
    | error p=>rw[hw]at h;cases h
    | ok ns=>rw[hw]at h;simp only[Option.some.injEq]at h;subst h;exact hok.head.size
   ·cases h
theorem jY (w:World) (B:Nat):au w B (.slice none 0 0) []:=⟨by simp,.inl ⟨rfl,rfl⟩⟩
theorem abO (v:Value) (L:List Df) (s:ByteArray) (w:World) (hv:aG w v L) (hn:L.length<=1048576) (pW:∀d∈L,dN d) (hs:s.size<=4194304) :
  Calls Tryz.prog 116 #[v,.string s] w (DC (qP L s) w):=by
 obtain⟨a,cap,rfl⟩:∃a cap,v=.slice a L.length cap:=by obtain⟨a,cap,rfl,_⟩:=hv;exact⟨a,cap,rfl⟩
 cases hg:good L
 ·have HE:Hid (qP L s=none):=(show _=_ by simp[qP,hg])
  have HG:=Lib.hid hg;clear hg;go_enter Tryz.func116,Tryz.ntmps116;go_wp2_with (go_at_call 46;refine(fJ _ L _ (hv.keep (aj _ _)) hn pW).mono ?_;rintro e w1⟨rfl,hb1⟩;rw[HG.out];obtain⟨r0,r1,r2,r3,rf,hz1,aF⟩:=aY (hb1.mono (by simp)))
  refine bodyPost_ret (v:=.tuple #[.agg #[.string ⟨#[]⟩,.int .i64 0,.int .i64 0,.slice none 0 0],.bool false]) (by simp[results,Tryz.results116,go_sem,r0,r1,r2,r3,rf,hz1]) rfl ?_;rw[HE.out];refine⟨.slice none 0 0,rfl,jY _ _,?_⟩;(repeat(first|(with_reducible refine Below.alloc ?_ ?_ _;rotate_left;(first|omega|(simp;done)|(simp;omega)))|(with_reducible refine Below.setCell ?_ ?_ _;rotate_left;(first|exact Nat.le_refl _|(simp;done)|(simp;omega)))|(with_reducible refine Below.drew ?_)));exact aF
 ·have HG:=Lib.hid hg;have lQ:=λ(w1:World) (hv1:aG w1 (.slice a L.length cap) L)=>abM _ L s w1 hv1 hg hs;cases hp:jJ L s with
  | none =>
   have HE:Hid (qP L s=none):=(show _=_ by simp[qP,hg,dX,hp])
   rw[hp]at lQ
   clear hg hp
   go_enter Tryz.func116,Tryz.ntmps116
   go_wp2_with (first|(go_at_call 46;refine(fJ _ L _ (hv.keep (aj _ _)) hn pW).mono ?_;rintro e w1⟨rfl,hb1⟩;rw[HG.out];have hB1:Below (w.heap.size+1) (w.alloc (.cells #[.string ⟨#[]⟩,.int .i64 0,.int .i64 0,.slice none 0 0] 101)) w1:=hb1.mono (by simp))|(go_at_call 174;refine(lQ _ ((hv.keep (aj _ _)).keep (hB1.mono (by simp)))).mono ?_;rintro e w2⟨p,rfl,hb2⟩;simp only[bD];obtain⟨r0,r1,r2,r3,rf,hz1,aF⟩:=aY (hB1.trans (hb2.mono (by have:=hB1.size;simpa using this)))))
   refine bodyPost_ret (v:=.tuple #[.agg #[.string ⟨#[]⟩,.int .i64 0,.int .i64 0,.slice none 0 0],.bool false]) (by simp[results,Tryz.results116,go_sem,r0,r1,r2,r3,rf,hz1]) rfl ?_
   rw[HE.out]
   refine⟨.slice none 0 0,rfl,jY _ _,?_⟩
   (repeat(first|(with_reducible refine Below.alloc ?_ ?_ _;rotate_left;(first|omega|(simp;done)|(simp;omega)))|(with_reducible refine Below.setCell ?_ ?_ _;rotate_left;(first|exact Nat.le_refl _|(simp;done)|(simp;omega)))|(with_reducible refine Below.drew ?_)));exact aF
  | some d =>
   have hdn:=Vr hp
   rw[hp]at lQ
   cases hnm:nameB d.name
   ·have HE:Hid (qP L s=none):=(show _=_ by simp[qP,hg,dX,hp,hnm])
    have HN:=Lib.hid hnm
    clear hg hp hnm
    go_enter Tryz.func116,Tryz.ntmps116
    go_wp2_with (first|(go_at_call 46;refine(fJ _ L _ (hv.keep (aj _ _)) hn pW).mono ?_;rintro e w1⟨rfl,hb1⟩;rw[HG.out];have hB1:Below (w.heap.size+1) (w.alloc (.cells #[.string ⟨#[]⟩,.int .i64 0,.int .i64 0,.slice none 0 0] 101)) w1:=hb1.mono (by simp))|(go_at_call 174;refine(lQ _ ((hv.keep (aj _ _)).keep (hB1.mono (by simp)))).mono ?_;rintro e w2⟨v2,rfl,ho2,hb2⟩;obtain⟨a2,c2,rfl⟩:=ho2.slice;have hB2:=hB1.trans (hb2.mono (by have:=hB1.size;simpa using this)))|(go_at_call 89;refine(Dx _ _ (by omega)).mono ?_;rintro e w3⟨rfl,hb3⟩;rw[HN.out];obtain⟨r0,r1,r2,r3,rf,hz1,aF⟩:=aY (hB2.trans (((Below.refl _ _).alloc (by have:=hB2.size;simpa using this) _).trans (hb3.mono (by have:=hB2.size;simp at this;simp;omega))))))
    refine bodyPost_ret (v:=.tuple #[.agg #[.string ⟨#[]⟩,.int .i64 0,.int .i64 0,.slice none 0 0],.bool false]) (by simp[results,Tryz.results116,go_sem,r0,r1,r2,r3,rf,hz1]) rfl ?_
    rw[HE.out]
    refine⟨.slice none 0 0,rfl,jY _ _,?_⟩
    (repeat(first|(with_reducible refine Below.alloc ?_ ?_ _;rotate_left;(first|omega|(simp;done)|(simp;omega)))|(with_reducible refine Below.setCell ?_ ?_ _;rotate_left;(first|exact Nat.le_refl _|(simp;done)|(simp;omega)))|(with_reducible refine Below.drew ?_)));exact aF
   ·rcases oO d.name L 0 with⟨f1,f2⟩|⟨i,hi,f1,f2⟩
    ·have HE:Hid (qP L s=some d):=(show _=_ by simp[qP,hg,dX,hp,hnm,f2])
     have HN:=Lib.hid hnm
     have HF:=Lib.hid f1
     clear hg hp hnm f1 f2
     go_enter Tryz.func116,Tryz.ntmps116
     go_wp2_with (first|(go_at_call 46;refine(fJ _ L _ (hv.keep (aj _ _)) hn pW).mono ?_;rintro e w1⟨rfl,hb1⟩;rw[HG.out];have hB1:Below (w.heap.size+1) (w.alloc (.cells #[.string ⟨#[]⟩,.int .i64 0,.int .i64 0,.slice none 0 0] 101)) w1:=hb1.mono (by simp))|(go_at_call 174;refine(lQ _ ((hv.keep (aj _ _)).keep (hB1.mono (by simp)))).mono ?_;rintro e w2⟨v2,rfl,ho2,hb2⟩;obtain⟨a2,c2,rfl⟩:=ho2.slice;have hB2:=hB1.trans (hb2.mono (by have:=hB1.size;simpa using this)))|(go_at_call 89;refine(Dx _ _ (by omega)).mono ?_;rintro e w3⟨rfl,hb3⟩;rw[HN.out];have hB3:=hB2.trans (((Below.refl _ _).alloc (by have:=hB2.size;simpa using this) _).trans (hb3.mono (by have:=hB2.size;simp at this;simp;omega)));obtain⟨z0,z1,z2,z3,zf,zz,_⟩:=aY (hb3.mono (by simp));have ho3:=(ho2.keep (aj _ _)).keep hb3)|(go_at_call 90;refine(vM _ L _ _ ((hv.keep (aj _ _)).keep (hB3.mono (by simp))) hn).mono ?_;rintro e w4⟨rfl,hb4⟩;rw[HF.out];obtain⟨r0,r1,r2,r3,rf,hz1,aF⟩:=aY (hB3.trans (hb4.mono (by have:=hB3.size;simpa using this)));have y0:=ak hb4 z0;have y1:=ak hb4 z1;have y2:=ak hb4 z2;have y3:=ak hb4 z3;have bF:=ho3.keep hb4))
     refine bodyPost_ret (v:=.tuple #[.agg #[.string d.name,.int .i64 d.inn,.int .i64 d.out,.slice a2 d.body.length c2],.bool true]) (by simp[results,Tryz.results116,go_sem,r0,r1,r2,r3,rf,hz1]) rfl ?_
     rw[HE.out]
     refine⟨_,rfl,?_,?_⟩
     ·have hwz:w.heap.size<w1.heap.size:=by have:=hB1.size;simp at this;omega
      exact au.mono (B:=w1.heap.size) (by omega) ((((bF.bY (a:=⟨w.heap.size,0,none⟩) hwz _).bY (a:=⟨w.heap.size,1,none⟩) hwz _).bY (a:=⟨w.heap.size,2,none⟩) hwz _).bY (a:=⟨w.heap.size,3,none⟩) hwz _)
     ·(repeat(first|(with_reducible refine Below.alloc ?_ ?_ _;rotate_left;(first|omega|(simp;done)|(simp;omega)))|(with_reducible refine Below.setCell ?_ ?_ _;rotate_left;(first|exact Nat.le_refl _|(simp;done)|(simp;omega)))|(with_reducible refine Below.drew ?_)));exact aF
    ·have HE:Hid (qP L s=none):=(show _=_ by simp[qP,hg,dX,hp,hnm,f2])
     rw[Nat.zero_add]at f1
     have HN:=Lib.hid hnm
     have HF:=Lib.hid f1
     have hi0:(0:Int)<=(i:Int):=by omega
     clear hg hp hnm f1 f2
     go_enter Tryz.func116,Tryz.ntmps116
     go_wp2_with (first|(go_at_call 46;refine(fJ _ L _ (hv.keep (aj _ _)) hn pW).mono ?_;rintro e w1⟨rfl,hb1⟩;rw[HG.out];have hB1:Below (w.heap.size+1) (w.alloc (.cells #[.string ⟨#[]⟩,.int .i64 0,.int .i64 0,.slice none 0 0] 101)) w1:=hb1.mono (by simp))|(go_at_call 174;refine(lQ _ ((hv.keep (aj _ _)).keep (hB1.mono (by simp)))).mono ?_;rintro e w2⟨v2,rfl,ho2,hb2⟩;obtain⟨a2,c2,rfl⟩:=ho2.slice;have hB2:=hB1.trans (hb2.mono (by have:=hB1.size;simpa using this)))|(go_at_call 89;refine(Dx _ _ (by omega)).mono ?_;rintro e w3⟨rfl,hb3⟩;rw[HN.out];have hB3:=hB2.trans (((Below.refl _ _).alloc (by have:=hB2.size;simpa using this) _).trans (hb3.mono (by have:=hB2.size;simp at this;simp;omega)));obtain⟨z0,z1,z2,z3,zf,zz,_⟩:=aY (hb3.mono (by simp)))|(go_at_call 90;refine(vM _ L _ _ ((hv.keep (aj _ _)).keep (hB3.mono (by simp))) hn).mono ?_;rintro e w4⟨rfl,hb4⟩;rw[HF.out];obtain⟨r0,r1,r2,r3,rf,hz1,aF⟩:=aY (hB3.trans (hb4.mono (by have:=hB3.size;simpa using this)))))
     refine bodyPost_ret (v:=.tuple #[.agg #[.string ⟨#[]⟩,.int .i64 0,.int .i64 0,.slice none 0 0],.bool false]) (by simp[results,Tryz.results116,go_sem,r0,r1,r2,r3,rf,hz1]) rfl ?_
     rw[HE.out]
     refine⟨.slice none 0 0,rfl,jY _ _,?_⟩
     (repeat(first|(with_reducible refine Below.alloc ?_ ?_ _;rotate_left;(first|omega|(simp;done)|(simp;omega)))|(with_reducible refine Below.setCell ?_ ?_ _;rotate_left;(first|exact Nat.le_refl _|(simp;done)|(simp;omega)))|(with_reducible refine Below.drew ?_)));exact aF
end Go.Proofs.YtikgblkfmpecfaaGreatDoor
