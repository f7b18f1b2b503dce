/-
  The draws: bent terms. Own work.
-/
import Derived.Test.YtikgblkfmpecfaaGreatDoorWNB
import Derived.Test.YtikgblkfmpecfaaGreatDoorWLW
import Derived.Deep.CutBlock
import Derived.Test.YtikgblkfmpecfaaGreatDoorWBB
import Derived.Test.YtikgblkfmpecfaaGreatDoorWU
set_option linter.all false
set_option maxRecDepth 100000
set_option maxHeartbeats 8000000
namespace Go.Proofs.YtikgblkfmpecfaaGreatDoor
open Go.RowKit
structure Zf (bc m:Nat) (w wr:World) (v:Value) (ns:List Nd):Prop where
 t0:wr.cell? ⟨w.heap.size,0,none⟩=some v
 tf:wr.frozen? ⟨w.heap.size,0,none⟩=false
 r0:wr.cell? ⟨w.heap.size+1,0,none⟩=some (.slice none 0 0)
 rf:wr.frozen? ⟨w.heap.size+1,0,none⟩=false
 own:au wr (w.heap.size+2) v ns
 cur:aW bc m wr
 ex:ah (λk=>k=bc) w wr
theorem Zf.cur' {bc m m':Nat} {w wr w2:World} {v:Value} {ns:List Nd} (h:Zf bc m w wr v ns) (hE:ah (λk=>k=bc) wr w2) (hb:bc<w.heap.size) (hc:aW bc m' w2):Zf bc m' w w2 v ns:=by
 have z0:=cell_lt h.t0;have z1:=cell_lt h.r0;exact⟨(hE.cell.1 _ _ z0 (by omega)).trans h.t0,(hE.cell.2 _ _ z0 (by omega)).trans h.tf,(hE.cell.1 _ _ z1 (by omega)).trans h.r0,(hE.cell.2 _ _ z1 (by omega)).trans h.rf,gV hE h.own (λk hk e=>by have:=(World.ownsRow.lt h.own k hk).1;have:k=bc:=e;omega),hc,h.ex.trans hE⟩
theorem Zf.keep {bc m:Nat} {w wr w2:World} {v:Value} {ns:List Nd} (h:Zf bc m w wr v ns) (hb:Below wr.heap.size wr w2) (hbc:bc<w.heap.size):Zf bc m w w2 v ns :=
 h.cur' ((ah.refl _ _).below hb) hbc (h.cur.keep hb)
theorem Zf.set {bc m:Nat} {w wr:World} {v v':Value} {ns ns':List Nd} (h:Zf bc m w wr v ns) (hbc:bc<w.heap.size) (ho:au wr (w.heap.size+2) v' ns'):Zf bc m w (wr.setCell ⟨w.heap.size,0,none⟩ v') v' ns':=by
 have t0:=h.t0;have z0:=cell_lt t0;have tf:=h.tf;have r0:=h.r0;have rf:=h.rf;have hS:ah (λk=>k=w.heap.size) wr (wr.setCell ⟨w.heap.size,0,none⟩ v'):=aB (a:=⟨w.heap.size,0,none⟩) (ah.refl (λk=>k=w.heap.size) _) (.inr rfl) _;exact⟨by go_simp,by go_simp,by go_simp,by go_simp,au.bY ho (by show w.heap.size<_;omega) _,h.cur.exc (T:=λk=>k=w.heap.size) hS (λk hk=>by omega),aB h.ex (.inl (Nat.le_refl _)) _⟩
theorem Zf.cell {bc m:Nat} {w wr:World} {g n c:Nat} {ns:List Nd} (h:Zf bc m w wr (.slice (some ⟨g,0,none⟩) n c) ns) (hbc:bc<w.heap.size) (j:Nat) (u:Value) (ns':List Nd) (ho:au (wr.setCell ⟨g,j,none⟩ u) (w.heap.size+2) (.slice (some ⟨g,0,none⟩) n c) ns'):Zf bc m w (wr.setCell ⟨g,j,none⟩ u) (.slice (some ⟨g,0,none⟩) n c) ns':=by
 have hg:=(World.ownsRow.lt h.own g rfl).1;have t0:=h.t0;have tf:=h.tf;have r0:=h.r0;have rf:=h.rf;have hS:ah (λk=>k=g) wr (wr.setCell ⟨g,j,none⟩ u):=aB (a:=⟨g,j,none⟩) (ah.refl (λk=>k=g) _) (.inr rfl) _;exact⟨(hS.cell.1 _ _ (cell_lt t0) (by omega)).trans t0,(hS.cell.2 _ _ (cell_lt t0) (by omega)).trans tf,(hS.cell.1 _ _ (cell_lt r0) (by omega)).trans r0,(hS.cell.2 _ _ (cell_lt r0) (by omega)).trans rf,ho,h.cur.exc (T:=λk=>k=g) hS (λk hk=>by omega),aB h.ex (.inl (by show w.heap.size<=g;omega)) _⟩
theorem Zf.mono {bc m m':Nat} {w wr:World} {v:Value} {ns:List Nd} (h:Zf bc m w wr v ns) (hm:m<=m'):Zf bc m' w wr v ns:=⟨h.t0,h.tf,h.r0,h.rf,h.own,h.cur.mono hm,h.ex⟩
theorem RQ {ns:List Nd} (h:kL ns) (k:Nat) {x:Nd} (hx:x.name.size<=1048576):kL (ns.set k x):=by
 refine⟨λd hd=>?_,by simpa using h.2⟩;rcases List.mem_or_eq_of_mem_set hd with h'|h'
 ·exact h.1 d h'
 ·subst h';exact hx
theorem Zf.Zh {bc m:Nat} {w wr:World} {g n c:Nat} {ns:List Nd} (h:Zf bc m w wr (.slice (some ⟨g,0,none⟩) n c) ns) (hn:n=ns.length) (hbc:bc<w.heap.size) (k j:Nat) (hk:k<ns.length) (hj:j<3) (u:Value) (y:Nd) (hy:d_ y=(d_ ns[k]).set j u) :
  Zf bc m w (wr.setCell ⟨g,k*3+j,none⟩ u) (.slice (some ⟨g,0,none⟩) n c) (ns.set k y):=by
 subst hn;refine h.cell hbc _ u _ ?_;unfold au;rw[List.length_set];exact TP rM h.own k j _ hk hj rfl u y hy
theorem Zf.app {bc m:Nat} {w wr w2 w3:World} {v v':Value} {ns ns':List Nd} (h:Zf bc m w wr v ns) (hbc:bc<w.heap.size) (hg:wr.grownBy w2 v.ownBlock) (ho:au w2 (w.heap.size+2) v' ns') (hb:Below w2.heap.size w2 w3) :
  w3.cell? ⟨w.heap.size,0,none⟩=some v/\w3.frozen? ⟨w.heap.size,0,none⟩=false/\w.heap.size<w3.heap.size/\Zf bc m w (w3.setCell ⟨w.heap.size,0,none⟩ v') v' ns':=by
 have hE:ah (λk=>v.ownBlock=some k) wr w3:=((ah.refl (λk=>v.ownBlock=some k) wr).grown hg (λk hk=>.inr hk)).below hb;have hlt:=λk hk=>(World.ownsRow.lt h.own k hk).1;have z0:=cell_lt h.t0;have z1:=cell_lt h.r0;have nt:∀k,k<=w.heap.size+1->¬v.ownBlock=some k:=λk hk e=>by have:=hlt k e;omega
 have t0:=(hE.cell.1 _ 0 z0 (nt _ (by omega))).trans h.t0;have tf:=(hE.cell.2 _ 0 z0 (nt _ (by omega))).trans h.tf;have r0:=(hE.cell.1 _ 0 z1 (nt _ (by omega))).trans h.r0;have rf:=(hE.cell.2 _ 0 z1 (nt _ (by omega))).trans h.rf;have z3:=cell_lt t0;have hS:ah (λk=>k=w.heap.size) w3 (w3.setCell ⟨w.heap.size,0,none⟩ v'):=aB (a:=⟨w.heap.size,0,none⟩) (ah.refl (λk=>k=w.heap.size) _) (.inr rfl) _;have hx:ah (λk=>k=bc) w w3:=⟨hE.os.trans h.ex.os,hE.tape.trans h.ex.tape,hE.output.trans h.ex.output,Nat.le_trans h.ex.size hE.size,λk hk ht=>(hE.block k (Nat.lt_of_lt_of_le hk h.ex.size) (nt k (by omega))).trans (h.ex.block k hk ht)⟩
 exact⟨t0,tf,z3,by go_simp,by go_simp,by go_simp,by go_simp,au.bY (au.keep hb ho) (by show w.heap.size<_;omega) _,(h.cur.exc hE (λk hk=>by have:=hlt k hk;omega)).exc (T:=λk=>k=w.heap.size) hS (λk hk=>by omega),aB hx (.inl (Nat.le_refl _)) _⟩
theorem ae2 {w:World} {B g n c k:Nat} {ns:List Nd} (h:au w B (.slice (some ⟨g,0,none⟩) n c) ns) (hn:n=ns.length) (hk:k<=ns.length):au w B (.slice (some ⟨g,0,none⟩) k c) (ns.take k):=by
 subst hn;have h0:=uh h k hk;have e:(ns.flatMap d_).take (k*3)=(ns.take k).flatMap d_:=by
  conv=>lhs;rw[<-List.take_append_drop k ns,List.flatMap_append]
  exact List.take_left' (by rw[flat_length rM,List.length_take];congr 1;omega)
 unfold au;rw[List.length_take,Nat.min_eq_left hk,<-e];exact h0
theorem ae3 {ns:List Nd} (h:kL ns) (k:Nat):kL (ns.take k):=⟨λd hd=>h.1 d (List.mem_of_mem_take hd),by have:=h.2;simp;omega⟩
theorem ae4 {ns:List Nd} (h:kL ns) (hl:ns.length<=1000) {x:Nd} (hx:x.name.size<=1048576):kL (ns++[x]):=by
 refine⟨λd hd=>?_,by simp;omega⟩;rcases List.mem_append.1 hd with h'|h'
 ·exact h.1 d h'
 ·simp at h';subst h';exact hx
theorem ae5 {w:World} {b:Nat} {p:Int} (h:w.heap[b]?=some (.cells #[.int .i64 1,.int .i64 (-1),.int .i64 12,.int .i64 13,.int .i64 p,.int .i64 96,.int .i64 97] 3)):Ri w (.slice (some ⟨b,0,none⟩) 7 7) [1,-1,12,13,p,96,97]:=by
 obtain⟨m0,_,_⟩:=made_cell h;refine⟨some ⟨b,0,none⟩,7,rfl,by simp,λi hi=>⟨_,0,rfl,hi,?_⟩⟩;simp only[List.length_cons,List.length_nil]at hi;match i,hi with
 | 0,_=>simp[m0]
 | 1,_=>simp[m0]
 | 2,_=>simp[m0]
 | 3,_=>simp[m0]
 | 4,_=>simp[m0]
 | 5,_=>simp[m0]
 | 6,_=>simp[m0]
def BnP (bc m:Nat) (w:World) (e:Ending) (w':World):Prop:=∃v' ns',e=.returned (.agg #[v'])/\au w' (w.heap.size+2) v' ns'/\kL ns'/\aW bc m w'/\ah (λk=>k=bc) w w'
theorem ae6 {bc m:Nat} {w w3:World} {va:Value} {v3:Value} {ns:List Nd} (hbz:bc<w.heap.size) (h:aW bc m w) (ho:au w3 ((w.alloc (.cells #[va] 27)).alloc (.cells #[.slice none 0 0] 27)).heap.size v3 ns)
  (hb:Below ((w.alloc (.cells #[va] 27)).alloc (.cells #[.slice none 0 0] 27)).heap.size ((w.alloc (.cells #[va] 27)).alloc (.cells #[.slice none 0 0] 27)) w3) :
  Zf bc m w (w3.setCell ⟨w.heap.size,0,none⟩ v3) v3 ns:=by
 have hba:Below w.heap.size w ((w.alloc (.cells #[va] 27)).alloc (.cells #[.slice none 0 0] 27)):=((Below.refl _ _).alloc (Nat.le_refl _) _).alloc (by simp) _;have hw3:Below w.heap.size w w3:=hba.trans (hb.mono (by simp;omega));have t0:w3.cell? ⟨w.heap.size,0,none⟩=some va:=(hb.cell (p:=⟨w.heap.size,0,none⟩) (by simp;omega)).trans (by simp[go_sem]);have tf:w3.frozen? ⟨w.heap.size,0,none⟩=false:=(hb.frozen (p:=⟨w.heap.size,0,none⟩) (by simp;omega)).trans (by simp[go_sem]);have r0:w3.cell? ⟨w.heap.size+1,0,none⟩=some (.slice none 0 0):=(hb.cell (p:=⟨w.heap.size+1,0,none⟩) (by simp)).trans (by simp[go_sem]);have rf:w3.frozen? ⟨w.heap.size+1,0,none⟩=false:=(hb.frozen (p:=⟨w.heap.size+1,0,none⟩) (by simp)).trans (by simp[go_sem]);have z0:=cell_lt t0;have ho':au w3 (w.heap.size+2) v3 ns:=au.mono (by simp) ho;have hS:ah (λk=>k=w.heap.size) w3 (w3.setCell ⟨w.heap.size,0,none⟩ v3):=aB (a:=⟨w.heap.size,0,none⟩) (ah.refl (λk=>k=w.heap.size) _) (.inr rfl) _;exact⟨by go_simp,by go_simp,by go_simp,by go_simp,au.bY ho' (by show w.heap.size<_;omega) _,(h.keep hw3).exc (T:=λk=>k=w.heap.size) hS (λk hk=>by omega),aB ((ah.refl _ _).below hw3) (.inl (Nat.le_refl _)) _⟩
theorem ae7 (bc m:Nat) (p:Int) (v:Value) (ns:List Nd) (w:World) (h:aW bc m w) (hm:m+20<=1099511627776) (hp:1<p) (hp2:p<=97) (hv:aZ w v ns) (h1:1<=ns.length) (h2:ns.length<=1000) (hok:kL ns) :
  Calls Tryz.prog 40 #[.pointer (some ⟨bc,0,none⟩),.int .i64 p,.agg #[v]] w (BnP bc (m+20) w):=by
 have hbz:=h.lt;obtain⟨va,vc,rfl⟩:=hv.slice;have hba:Below w.heap.size w ((w.alloc (.cells #[.slice va ns.length vc] 27)).alloc (.cells #[.slice none 0 0] 27)):=((Below.refl _ _).alloc (Nat.le_refl _) _).alloc (by simp) _;go_enter Tryz.func40,Tryz.ntmps40;go_upto_block 0 with(first
  |(go_at_call 38;refine(pick_any bc _ 24 _ qC.cur (by omega) (by omega)).mono ?_;rintro e w5⟨y,rfl,y0,y1,y2,hc5,hx5⟩;have hst:=qC.cur' hx5 hbz hc5)
  |(go_at_call 38;refine(pick_any bc m ns.length _ hst3.cur (by omega) (by omega)).mono ?_;rintro e w4⟨k,rfl,k0,k1,k2,hc4,hx4⟩;have qC:=hst3.cur' hx4 hbz hc4)
  |(go_at_call 79;refine(Xf _ ns _ (hv.keep hba) (by omega)).mono ?_;rintro e w3⟨v3,rfl,ho3,hb3⟩;have hst3:=ae6 hbz h ho3 hb3;obtain⟨g3,c3,rfl,ahV,ahW,ae8,ae9⟩:=Ad ho3 (by omega);have Zg:=(hb3.cell (p:=⟨w.heap.size,0,none⟩) (by simp;omega)).trans (show _=some (Value.slice va ns.length vc)by simp[go_sem]);have RS:=(hb3.frozen (p:=⟨w.heap.size,0,none⟩) (by simp;omega)).trans (show _=false by simp[go_sem]);have zz3:=cell_lt Zg))
 clear hst3 qC ho3 hb3 hx4 hx5 Zg RS zz3 ae9 hc4 hc5 hba hv y1 k1 h;simp only[World.size_alloc]at ae8;obtain⟨k,rfl⟩:=Int.eq_ofNat_of_zero_le k0;have hk:k<ns.length:=by omega
 obtain⟨hok1,hok2⟩:=id hok;have t0:=hst.t0;have tf:=hst.tf;have tz:=cell_lt t0;have hws:=hst.own;have rz:=cell_lt hst.r0;have hgz:=(World.ownsRow.lt hws g3 rfl).2;have hgb:¬g3=w.heap.size:=by omega
 have hgc:¬g3=bc:=by omega
 have hwc:¬w.heap.size=bc:=by omega
 have n0:=gQ rM hws k 0 hk (by omega);have n1:=gQ rM hws k 1 hk (by omega);have n2:=gQ rM hws k 2 hk (by omega);simp only[d_,List.getElem?_cons_zero,List.getElem?_cons_succ,Nat.add_zero]at n0 n1 n2;have f0:=World.ownsRow.frozenAt hws (k*3);have f1:=World.ownsRow.frozenAt hws (k*3+1);have f2:=World.ownsRow.frozenAt hws (k*3+2);have xZ:∀w7,Below w5.drew.heap.size w5.drew w7->Below w5.heap.size w5 w7:=λw7 hb=>((Below.refl _ _).drew).trans (hb.mono (by simp));have hgb':¬w.heap.size=g3:=by omega
 have nH:∀k,(k=bc\/k=g3)->k<w5.drew.heap.size:=λk hk=>by rcases hk with h|h<;>(simp;omega)
 go_cut [20] (λs20 wx=>∃(v':Value) (ns':List Nd),Zf bc (m+10) w wx v' ns'/\kL ns')
 case first =>
  by_cases e0:y=0
  ·subst e0
   go_wp2_with fail
   refine bC (C:=ah (λk=>k=bc\/k=g3) _) 6 [0,1,2,3,4,5,6,7] (by kernel_rfl) (by kernel_rfl) (ah.grows _ _) (ah.refl _ _) ?_
   iterate 4 (apply fF rfl rfl rfl;(focus intro u hc' hf';(try simp only[World.size_drew]at hc' hf');go_simp<;>rfl);intro K hK;go_simp;apply hK;clear hK K)
   refine Eu rfl rfl rfl (ah.refl _ _) 38 (nH) (λK hK=>?_);apply Exists.intro;refine⟨λw' hw'=>?_,λw7 hw7 jw=>?_⟩;(focus go_simp;rfl);refine(pick_any bc _ 19 _ (hst.keep (xZ _ jw) hbz).cur (by omega) (by omega)).mono ?_;rintro e w8⟨z,rfl,z0,z1,z2,hc8,o_⟩;refine⟨_,rfl,o_.mono (λk hk=>.inl hk),λhx=>?_⟩;go_simp;apply hK;clear hK K
   have ji:=(hst.keep (xZ _ jw) hbz).cur' o_ hbz hc8
   iterate 2 (apply fF rfl rfl rfl;(focus intro u hc' hf';(try simp only[World.size_drew]at hc' hf');go_simp<;>rfl);intro K hK;go_simp;apply hK;clear hK K)
   refine eH rfl rfl rfl (ah.grows _ _) hx (λK hK=>?_)
   intro w9 eu bG
   have wJ:=ji.keep bG hbz
   have n09:=gQ rM wJ.own k 0 hk (by omega)
   simp only[d_,List.getElem?_cons_zero,Nat.add_zero]at n09
   have f09:=World.ownsRow.frozenAt wJ.own (k*3)
   refine⟨w9.setCell ⟨g3,k*3,none⟩ (.int .i64 z),?_,⟨aB eu (.inr (.inr rfl)) _,by simp,λq hq _ _=>Below.heap_setCell _ _ _ _ (λhh=>by have:q=g3:=hh;simp at hq;omega)⟩,?_⟩
   ·go_simp
   go_simp
   refine hK _ _ _ ?_
   clear hK K
   refine aK ?_
   go_wp2_with fail
   go_meet
   case rel=>exact⟨_,_,(wJ.Zh rfl hbz k 0 hk (by omega) (.int .i64 z) ⟨z,ns[k].value,ns[k].name⟩ rfl).mono (by omega),RQ hok k (hok1 ns[k] (List.getElem_mem _))⟩
  by_cases e1:y=1
  ·subst e1
   go_wp2_with fail
   refine bC (C:=ah (λk=>k=bc\/k=g3) _) 6 [0,1,2,3,4,5,6,7,8,9] (by kernel_rfl) (by kernel_rfl) (ah.grows _ _) (ah.refl _ _) ?_
   iterate 5 (apply fF rfl rfl rfl;(focus intro u hc' hf';(try simp only[World.size_drew]at hc' hf');go_simp<;>rfl);intro K hK;go_simp;apply hK;clear hK K)
   refine fG rfl rfl rfl (ah.grows _ _) (ah.refl _ _) (λb=>.slice (some ⟨b,0,none⟩) 7 7) (λK hK=>?_)
   apply Exists.intro
   refine⟨λw' hw'=>?_,λb6 w6 hw6 hb6 zG Bv Bz=>?_⟩
   ·obtain⟨hc',hf'⟩:=hw'.cell
    try simp only[World.size_drew]at hc' hf'
    go_simp
    rfl
   go_simp
   refine hK _ _ _ ?_
   clear hK K
   refine Eu rfl rfl rfl (hw6) 80 (nH) (λK hK=>?_);apply Exists.intro;refine⟨λw' hw'=>?_,λw7 hw7 jw=>?_⟩;(focus go_simp;rfl);refine(Rj bc _ _ [1,-1,12,13,p,96,97] _ ((hst.keep (xZ _ hb6) hbz).keep jw hbz).cur (by omega) (ae5 ((jw.block b6 (made_cell zG).2.2).trans zG)) (by simp) (by simp) (λq hq=>by simp[Value.ownBlock]at hq;simp at Bv;omega)).mono ?_;rintro e w8⟨z,hz,rfl,hc8,o_⟩;refine⟨_,rfl,o_.mono (λk hk=>.inl hk),λhx=>?_⟩;go_simp;apply hK;clear hK K
   have ji:=((hst.keep (xZ _ hb6) hbz).keep jw hbz).cur' o_ hbz hc8
   iterate 2 (apply fF rfl rfl rfl;(focus intro u hc' hf';(try simp only[World.size_drew]at hc' hf');go_simp<;>rfl);intro K hK;go_simp;apply hK;clear hK K)
   refine eH rfl rfl rfl (ah.grows _ _) hx (λK hK=>?_)
   intro w9 eu bG
   have wJ:=ji.keep bG hbz
   have n09:=gQ rM wJ.own k 1 hk (by omega)
   simp only[d_,List.getElem?_cons_zero,List.getElem?_cons_succ]at n09
   have f09:=World.ownsRow.frozenAt wJ.own (k*3+1)
   refine⟨w9.setCell ⟨g3,k*3+1,none⟩ (.int .i64 z),?_,⟨aB eu (.inr (.inr rfl)) _,by simp,λq hq _ _=>Below.heap_setCell _ _ _ _ (λhh=>by have:q=g3:=hh;simp at hq;omega)⟩,?_⟩
   ·go_simp
   go_simp
   refine hK _ _ _ ?_
   clear hK K
   refine aK ?_
   go_wp2_with fail
   go_meet
   case rel=>exact⟨_,_,(wJ.Zh rfl hbz k 1 hk (by omega) (.int .i64 z) ⟨ns[k].kind,z,ns[k].name⟩ rfl).mono (by omega),RQ hok k (hok1 ns[k] (List.getElem_mem _))⟩
  by_cases e2:y=2
  ·subst e2
   go_wp2_with fail
   go_meet
   case rel=>exact⟨_,_,(hst.set hbz (ae2 hws rfl (by omega))).mono (by omega),ae3 hok k⟩
  by_cases e3:y=3
  ·subst e3
   go_wp2_with fail
   obtain⟨i0,hi,hz0,hz1,hzb⟩:=info_parts I8
   have h1c:∀u∈d_ ns[k],u.oneCell'=true:=by intro u hu;simp[d_]at hu;rcases hu with rfl|rfl|rfl<;>rfl
   refine rV (C:=ah (aQ) _) 12 [0,1,2,3,4,5,6,7] [8,9,10] (by kernel_rfl) (by kernel_rfl) (ah.grows _ _) (ah.refl _ _) ?_
   iterate 7 (apply ay rfl rfl rfl;(focus intro u hc' hf';go_simp<;>rfl);intro K hK;go_simp;apply hK;clear hK K)
   refine fG rfl rfl rfl (ah.grows _ _) (ah.refl _ _) (λb=>.slice (some ⟨b,0,none⟩) 1 1) (λK hK=>?_)
   apply Exists.intro
   refine⟨λw' hw'=>?_,λb6 w6 hw6 hb6 zG Bv Bz=>?_⟩
   ·obtain⟨hc',hf'⟩:=hw'.cell
    try simp only[World.size_drew]at hc' hf'
    go_simp
    rfl
   go_simp
   refine hK _ _ _ ?_
   clear hK K
   refine aK ?_
   have lF:=hst.keep (xZ _ hb6) hbz
   have uy:=(xZ _ hb6).size
   refine⟨ah (λk=>k=w.heap.size\/k=g3) w6,w6.heap.size,ah.grows _ _,ah.refl _ _,?_⟩
   refine rU rfl rfl rfl (ah.refl _ _) (.tmp 50) (.tmp 56) 25 rfl (w.heap.size+2) 87 i0 _ 3 32 Tryz.underlying25 hi hz0 hz1 hzb rfl (by decide) (.slice (some ⟨g3,0,none⟩) ns.length c3) ns.length (ns.flatMap d_) rfl (λj hj=>.inl ⟨by simp[Value.ownBlock]at hj;subst hj;omega,by simp[Value.ownBlock]at hj;exact .inr hj.symm⟩) (.slice (some ⟨b6,0,none⟩) 1 1) 1 (d_ ns[k]) rfl h1c (by unfold maxLen;omega) (by omega) (by omega) ?_ ?_
   ·intro w8 hw8 hb8
    refine⟨au.keep hb8 lF.own,rfl,.inr ⟨_,1,rfl,?_⟩⟩
    obtain⟨m0,_,_⟩:=made_cell ((hb8.block b6 (made_cell zG).2.2).trans zG)
    intro j u hj
    match j,hj with
    | 0,hj=>simp[d_]at hj;subst hj;simp[Addr.add,m0]
    | 1,hj=>simp[d_]at hj;subst hj;simp[Addr.add,m0]
    | 2,hj=>simp[d_]at hj;subst hj;simp[Addr.add,m0]
   intro K hK w8 w9 v9 hw8 hb8 g_ hg9 eu hl9
   have ji:=lF.keep hb8 hbz
   have iL:au w9 (w.heap.size+2) v9 (ns++[ns[k]]):=by
    unfold au;rw[List.length_append,List.flatMap_append];simpa using g_
   obtain⟨a9,c9,rfl⟩:=iL.slice
   go_simp
   refine hK _ _ _ ?_
   clear hK K
   iterate 1 (apply fF rfl rfl rfl;(focus intro u hc' hf';(try simp only[World.size_drew]at hc' hf');go_simp<;>rfl);intro K hK;go_simp;apply hK;clear hK K)
   refine eH rfl rfl rfl (ah.grows _ _) eu (λK hK=>?_)
   intro w10 qN bf
   obtain⟨t10,ahX,z10,lD⟩:=ji.app hbz hg9 iL bf
   refine⟨w10.setCell ⟨w.heap.size,0,none⟩ (.slice a9 (ns.length+1) c9),?_,⟨aB qN (.inr (.inl rfl)) _,by simp,λq hq _ _=>Below.heap_setCell _ _ _ _ (λhh=>by have:q=w.heap.size:=hh;omega)⟩,?_⟩
   ·go_simp
   go_simp
   refine hK _ _ _ ?_
   clear hK K
   refine aK ?_
   go_wp2_with fail
   go_meet
   case rel=>exact⟨_,_,Zf.mono (by simpa using lD) (by omega),ae4 hok h2 (hok1 _ (List.getElem_mem _))⟩
  by_cases e4:y=4
  ·subst e4
   go_wp2_with fail
   go_meet
   case rel=>exact⟨_,_,(hst.Zh rfl hbz k 2 hk (by omega) (.string ⟨#[102]⟩) ⟨ns[k].kind,ns[k].value,⟨#[102]⟩⟩ rfl).mono (by omega),RQ hok k (show(⟨#[102]⟩:ByteArray).size<=1048576 by decide)⟩
  go_wp2_with fail
  go_meet
  case rel=>exact⟨_,_,hst.mono (by omega),hok⟩
 case rest =>
  obtain⟨v',ns',hst',hok'⟩:=hcut
  obtain⟨a',c',rfl⟩:=hst'.own.slice
  clear hst t0 tf tz hws rz hgz n0 n1 n2 f0 f1 f2
  have t0:=hst'.t0
  have tz:=cell_lt t0
  have r0:=hst'.r0
  have rf:=hst'.rf
  have rz:=cell_lt r0
  go_wp2_with fail
  have hW:(wc.setCell ⟨w.heap.size+1,0,none⟩ (.slice a' ns'.length c')).cell? ⟨w.heap.size+1,0,none⟩=some (.slice a' ns'.length c'):=by go_simp
  have hS:ah (λk=>k=w.heap.size+1) wc (wc.setCell ⟨w.heap.size+1,0,none⟩ (.slice a' ns'.length c')):=aB (a:=⟨w.heap.size+1,0,none⟩) (ah.refl (λk=>k=w.heap.size+1) _) (.inr rfl) _
  go_wp2
  refine bodyPost_ret (v:=.agg #[.slice a' ns'.length c']) (by simp[results,Tryz.results40,go_sem,hW]) rfl ⟨_,ns',rfl,au.bY hst'.own (by show w.heap.size+1<_;omega) _,hok',(hst'.cur.mono (by omega)).exc (T:=λk=>k=w.heap.size+1) hS (λk hk=>by omega),aB hst'.ex (.inl (by show w.heap.size<=w.heap.size+1;omega)) _⟩
theorem afa (W:World) (b:Nat) (u:UInt8) (hc:W.cell? ⟨b,0,none⟩=some (.int .u8 (u.toNat:Int))):(convert 22 9 (.slice (some ⟨b,0,none⟩) 1 1)).run Tryz.prog W=.ok (.string ⟨#[u]⟩) W:=by
 have:=run_convert_bytes_back (P:=Tryz.prog) W 22 9 5 ⟨b,0,none⟩ 1 [u] Tryz.underlying22 Tryz.underlying5 Tryz.underlying9 (by
  intro j hj;have:j=0:=by simpa using hj
  subst this;simp[Addr.add,hc])
 simpa using this
def Zi (bc m n:Nat) (w:World) (e:Ending) (w':World):Prop:=∃s:ByteArray,e=.returned (.string s)/\s.size<=n/\aW bc m w'/\ah (λk=>k=bc) w w'
theorem Zj (bc m:Nat) (t q:ByteArray) (w:World) (h:aW bc m w) (hm:m+20<=1099511627776) (ht:t.size<=100000) (hq0:0<q.size) (hq:q.size<=1000) :
  Calls Tryz.prog 65 #[.pointer (some ⟨bc,0,none⟩),.string t,.string q] w (Zi bc (m+20) (t.size+2) w):=by
 have hbz:=h.lt;have hcv0:Hid (∀(W:World) (z:Nat) (hz:z<q.size),(convert 22 9 (.slice (some ⟨W.heap.size,0,none⟩) 1 1)).run Tryz.prog (W.alloc (.cells #[.int .u8 (q[z].toNat:Int)] 5))=.ok (.string ⟨#[q[z]]⟩) (W.alloc (.cells #[.int .u8 (q[z].toNat:Int)] 5)) ):=(show ∀_,_ from λW z hz=>afa _ _ _ (by simp[go_sem]))
 go_enter Tryz.func65,Tryz.ntmps65;go_wp2_with (go_at_call 38;refine(pick_any bc m 2 _ h (by omega) (by omega)).mono ?_;rintro e w2⟨k,rfl,k0,k1,k2,hc2,hx2⟩)
 have e1:IntKind.i64.wrap (1+k)=1+k:=IntWalk.i64_in _ (by omega);have k4:1+k<=2:=by omega
 go_loopw [1,7] (λtv kv wr=>∃(s:ByteArray) (k:Int) (j:Nat),tv=.string s/\kv=.int .i64 k/\0<=k/\k+j<=2/\s.size<=t.size+j/\aW bc (m+2+6*j) wr/\ah (λk=>k=bc) w wr) (λ_ kv _=>(intOf kv).toNat)
 case atStart=>exact⟨t,1+k,0,rfl,by simp[e1],by omega,by omega,by omega,hc2,hx2⟩
 case round =>
  clear e1 k4 hc2 hx2
  obtain⟨s,k,j,rfl,rfl,hk0,hkj,hsz,hc,hx⟩:=hrel
  by_cases hk:0<k
  ·by_cases hs0:s.size=0
   ·have g1:¬(0:Int)<s.size:=by omega
    go_wp2_with fail
    go_ret
    exact⟨s,rfl,by omega,hc.mono (by omega),hx⟩
   ·have g1:(0:Int)<s.size:=by omega
    go_upto_region 8 with(first
     |(go_at_call 38;refine(pick_any bc _ 3 _ (hc4 _) (by omega) (by omega)).mono ?_;rintro e w5⟨y,rfl,y0,y1,y2,hc5,hx5⟩)
     |(go_at_call 38;refine(pick_any bc _ q.size _ hc3 (by omega) (by omega)).mono ?_;rintro e w4⟨z,rfl,z0,z1,z2,Zk,hx4⟩;obtain⟨z,rfl⟩:=Int.eq_ofNat_of_zero_le z0;have hz:z<q.size:=(by omega);have hcv:=hcv0.out w4 z hz;have hc4:=λo=>Zk.keep (aj w4 o))
     |(go_at_call 38;refine(pick_any bc _ s.size _ hc (by omega) (by omega)).mono ?_;rintro e w3⟨i,rfl,i0,i1,i2,hc3,hx3⟩;obtain⟨i,rfl⟩:=Int.eq_ofNat_of_zero_le i0;have hi:i<s.size:=(by omega)))
    have Zl:=(hx3.trans hx4).below (aj w4 (.cells #[.int .u8 (q[z].toNat:Int)] 5))
    have RU:ah (λk=>k=bc) w w5:=hx.trans (Zl.trans hx5)
    have g2:(i:Int)<=s.size:=by omega
    have g3:(i:Int)+1<=s.size:=by omega
    have e1:IntKind.i64.wrap ((i:Int)+1)=(i:Int)+1:=IntWalk.i64_in _ (by omega)
    obtain⟨ub,hu⟩:∃u:UInt8,u=q[z]:=⟨_,rfl⟩
    rw[<-hu]
    have n1:¬9223372036854775807<min i s.size+1:=by omega
    have n2:¬9223372036854775807<min i s.size+(s.size-(i+1)):=by omega
    have n3:¬9223372036854775807<min i s.size+1+(s.size-i):=by omega
    have n4:¬9223372036854775807<min i s.size+1+(s.size-(i+1)):=by omega
    clear hx3 hx4 Zl hx5 hc3 hc4 Zk hcv hcv0 hu hx
    by_cases h0:y=0
    ·subst h0
     go_wp2_with fail
     refine bC (C:=ah (aQ) _) 6 [0,1,2,3,4,5,6,7,8,9] (by kernel_rfl) (by kernel_rfl) (ah.grows _ _) (ah.refl _ _) ?_
     iterate 10 (apply ay rfl rfl rfl;(focus intro u hc' hf';go_simp<;>rfl);intro K hK;go_simp;apply hK;clear hK K)
     refine aK ?_
     go_wp2_with fail
     go_roundw
     case rel=>exact⟨_,k-1,j+1,rfl,by go_num,by omega,by omega,by have hu1:(⟨#[ub]⟩:ByteArray).size=1:=rfl;simp[bsize,ByteArray.size_extract,hu1];omega,(hc5.keep ((Below.refl _ _).drew)).mono (by omega),RU.below ((Below.refl _ _).drew)⟩
     case measure=>simp[intOf];omega
    by_cases h1:y=1
    ·subst h1
     go_wp2_with fail
     refine bC (C:=ah (aQ) _) 6 [0,1,2,3,4,5,6,7,8,9,10] (by kernel_rfl) (by kernel_rfl) (ah.grows _ _) (ah.refl _ _) ?_
     iterate 11 (apply ay rfl rfl rfl;(focus intro u hc' hf';go_simp<;>rfl);intro K hK;go_simp;apply hK;clear hK K)
     refine aK ?_
     go_wp2_with fail
     go_roundw
     case rel=>exact⟨_,k-1,j+1,rfl,by go_num,by omega,by omega,by have hu1:(⟨#[ub]⟩:ByteArray).size=1:=rfl;simp[bsize,ByteArray.size_extract,hu1];omega,(hc5.keep ((Below.refl _ _).drew)).mono (by omega),RU.below ((Below.refl _ _).drew)⟩
     case measure=>simp[intOf];omega
    have hy2:y=2:=by omega
    subst hy2
    go_wp2_with fail
    refine bC (C:=ah (aQ) _) 6 [0,1,2,3,4,5,6,7,8] (by kernel_rfl) (by kernel_rfl) (ah.grows _ _) (ah.refl _ _) ?_
    iterate 9 (apply ay rfl rfl rfl;(focus intro u hc' hf';go_simp<;>rfl);intro K hK;go_simp;apply hK;clear hK K)
    refine aK ?_
    go_wp2_with fail
    go_roundw
    case rel=>exact⟨_,k-1,j+1,rfl,by go_num,by omega,by omega,by have hu1:(⟨#[ub]⟩:ByteArray).size=1:=rfl;simp[bsize,ByteArray.size_extract,hu1];omega,(hc5.keep ((Below.refl _ _).drew)).mono (by omega),RU.below ((Below.refl _ _).drew)⟩
    case measure=>simp[intOf];omega
  ·go_wp2_with fail
   go_ret
   exact⟨s,rfl,by omega,hc.mono (by omega),hx⟩
end Go.Proofs.YtikgblkfmpecfaaGreatDoor
