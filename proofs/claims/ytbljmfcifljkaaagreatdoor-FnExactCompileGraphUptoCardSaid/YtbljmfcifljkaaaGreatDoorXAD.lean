/-
  The laws' copies of edges, graphs and sessions. Own work.
-/
import Derived.Test.YtbljmfcifljkaaaGreatDoorXAB
import Derived.Test.YtbljmfcifljkaaaGreatDoorXCB
import Derived.Test.YtbljmfcifljkaaaGreatDoorXAC
set_option linter.all false
set_option maxRecDepth 100000
set_option maxHeartbeats 8000000
namespace Go.Proofs.YtbljmfcifljkaaaGreatDoor
open Go.RowKit
set_option maxRecDepth 100000
set_option maxHeartbeats 2000000
theorem infoEdge:(Tryz.prog.info? 189).map (fun i=>(i.zero,i.size,i.bytes))=some (some (.agg #[.int .i64 0,.int .i64 0,.slice none 0 0,.slice none 0 0]),4,64):=by kernel_rfl
theorem toIntS_any (v:Value) (zs:List Int) (w:World) (hv:IntsAt w v zs) (hn:zs.length≤1048576) :
  Calls Tryz.prog 69 #[v] w fun e w'=>∃ v',e=.returned v'∧Rw w' w.heap.size v' zs∧Below w.heap.size w w':=by
 obtain ⟨a,cap,rfl,hc,hat⟩:=hv
 obtain ⟨i0,hi,hz0,hz1,hz2⟩:=info_parts infoInt
 go_enter Tryz.func69,Tryz.ntmps69
 go_wp2_with (at_make;refine wpList_make_full _ rfl _ _ _ rfl w.heap.size 3 i0 _ 1 Tryz.underlying40 hi hz0 hz1 _ _ _ _ zs.length rfl rfl rfl rfl (by rw [hz2];omega) (by unfold maxLen;omega) (Nat.le_refl _) ?_;intro w1 hown hgr)
 have hz:=made_flat (f:=iCell) (0:Int) zs.length (sz:=1) (by omega) rfl
 have hown0:w1.ownsRow w.heap.size 3 1 (Value.slice (some { block:=w.heap.size,off:=0 }) zs.length zs.length) zs.length ((zs.take 0 ++ List.replicate (zs.length - 0) 0).flatMap iCell):=by
  simp only [List.take_zero,List.nil_append,Nat.sub_zero];rw [← hz];exact hown
 have hlt:w.heap.size<w1.heap.size:=(hown.lt w.heap.size rfl).2
 have hb1:Below w.heap.size w w1:=(Below.refl _ _).grown hgr (Nat.le_refl _) (by simp)
 clear hown hz hgr
 go_loopw [4] (fun i wr=>∃ k:Nat,k≤zs.length∧i=.int .i64 k∧wr.ownsRow w.heap.size 3 1 (Value.slice (some { block:=w.heap.size,off:=0 }) zs.length zs.length) zs.length ((zs.take k ++ List.replicate (zs.length - k) 0).flatMap iCell)∧w.heap.size<wr.heap.size∧Below w.heap.size w wr) (fun i _=>zs.length - (intOf i).toNat)
 case atStart=>exact ⟨0,Nat.zero_le _,rfl,hown0,hlt,hb1⟩
 case round =>
  obtain ⟨k,hk,rfl,hown,hsz,hbel⟩:=hrel
  clear hown0 hlt hb1
  by_cases hlt:k<zs.length
  ·obtain ⟨b,o,rfl,_,c0⟩:=hat k hlt
   rw [Nat.mul_one] at c0
   replace c0:=cell_keep hbel c0
   have hll:(zs.take k ++ List.replicate (zs.length - k) 0).length=zs.length:=by simp;omega
   have d0:=owns_cell iCell_len hown k 0 (by rw [hll];exact hlt) (by omega)
   have f0:=hown.frozenAt (k * 1)
   simp only [iCell,Nat.mul_one,Nat.add_zero,List.getElem?_cons_zero] at d0 f0
   have hown3:=owns_set iCell_len hown k 0 _ (by rw [hll];exact hlt) (by omega) rfl (.int .i64 zs[k]) zs[k] rfl
   rw [take_set zs 0 k hlt,Nat.mul_one,Nat.add_zero] at hown3
   clear hat
   go_wp2_with fail
   go_roundw
   case rel=>exact ⟨k+1,by omega,by go_num,hown3,by simp;omega,hbel.setCell (Nat.le_refl _) _⟩
   case measure=>simp [intOf];omega
  ·go_wp2
   go_ret
   have hkk:k=zs.length:=by omega
   subst hkk
   refine ⟨_,rfl,?_,hbel⟩
   simpa [Rw] using hown
theorem Rw.slice {w:World} {B:Nat} {v:Value} {xs:List Int} (h:Rw w B v xs):∃ a c,v=.slice a xs.length c:=h.at.slice
theorem toEdge_any (e:EdI) (vi vo:Value) (w:World) (hi:IntsAt w vi e.ins) (ho:IntsAt w vo e.outs) (hok:EdOk e) :
  Calls Tryz.prog 141 #[.agg #[.int .i64 e.kind,.int .i64 e.value,vi,vo]] w fun r w'=>∃ vi' vo',r=.returned (.agg #[.int .i64 e.kind,.int .i64 e.value,vi',vo'])∧Rw w' w.heap.size vi' e.ins∧Rw w' w.heap.size vo' e.outs∧Below w.heap.size w w':=by
 obtain ⟨a1,q1,rfl⟩:=hi.slice
 obtain ⟨a2,q2,rfl⟩:=ho.slice
 go_enter Tryz.func141,Tryz.ntmps141
 go_wp2_with fail
 have kI:=((Bk.new w 187 #[.int .i64 e.kind,.int .i64 e.value,.slice a1 e.ins.length q1,.slice a2 e.outs.length q2]).alloc (.cells #[.int .i64 0,.int .i64 0,.slice none 0 0,.slice none 0 0] 189)).alloc (.cells #[.int .i64 e.kind,.int .i64 e.value,.slice none 0 0,.slice none 0 0] 189)
 have kR:=(Bk.new (w.alloc (.cells #[.int .i64 e.kind,.int .i64 e.value,.slice a1 e.ins.length q1,.slice a2 e.outs.length q2] 187)) 189 #[.int .i64 0,.int .i64 0,.slice none 0 0,.slice none 0 0]).alloc (.cells #[.int .i64 e.kind,.int .i64 e.value,.slice none 0 0,.slice none 0 0] 189)
 have kO:=Bk.new ((w.alloc (.cells #[.int .i64 e.kind,.int .i64 e.value,.slice a1 e.ins.length q1,.slice a2 e.outs.length q2] 187)).alloc (.cells #[.int .i64 0,.int .i64 0,.slice none 0 0,.slice none 0 0] 189)) 189 #[.int .i64 e.kind,.int .i64 e.value,.slice none 0 0,.slice none 0 0]
 have hB:=((alloc_below w (.cells #[.int .i64 e.kind,.int .i64 e.value,.slice a1 e.ins.length q1,.slice a2 e.outs.length q2] 187)).alloc (by simp) (.cells #[.int .i64 0,.int .i64 0,.slice none 0 0,.slice none 0 0] 189)).alloc (by simp;omega) (.cells #[.int .i64 e.kind,.int .i64 e.value,.slice none 0 0,.slice none 0 0] 189)
 have hz:w.heap.size+1+1<(((w.alloc (.cells #[.int .i64 e.kind,.int .i64 e.value,.slice a1 e.ins.length q1,.slice a2 e.outs.length q2] 187)).alloc (.cells #[.int .i64 0,.int .i64 0,.slice none 0 0,.slice none 0 0] 189)).alloc (.cells #[.int .i64 e.kind,.int .i64 e.value,.slice none 0 0,.slice none 0 0] 189)).heap.size:=by simp
 simp only [World.size_alloc] at kR kO
 generalize (((w.alloc (.cells #[.int .i64 e.kind,.int .i64 e.value,.slice a1 e.ins.length q1,.slice a2 e.outs.length q2] 187)).alloc (.cells #[.int .i64 0,.int .i64 0,.slice none 0 0,.slice none 0 0] 189)).alloc (.cells #[.int .i64 e.kind,.int .i64 e.value,.slice none 0 0,.slice none 0 0] 189))=u0 at *
 refine (toIntS_any _ e.ins _ (hi.keep hB) hok.inn).mono ?_
 rintro r u1 ⟨v1,rfl,hr1,hb1⟩
 obtain ⟨b1,s1,rfl⟩:=hr1.slice
 replace kI:=kI.keep hb1
 replace kR:=kR.keep hb1
 replace kO:=kO.keep hb1
 replace hB:=hB.trans (hb1.mono hB.size)
 obtain ⟨iI,-,zI⟩:=kI.cell
 obtain ⟨iO,fO,zO⟩:=kO.cell
 go_wp2_with fail
 replace kI:=kI.other ⟨w.heap.size+1+1,2,none⟩ (.slice b1 e.ins.length s1) (by simp;omega)
 replace kR:=kR.other ⟨w.heap.size+1+1,2,none⟩ (.slice b1 e.ins.length s1) (by simp)
 replace kO:=kO.set 2 (.slice b1 e.ins.length s1)
 replace hB:Below w.heap.size w (u1.setCell ⟨w.heap.size+1+1,2,none⟩ (.slice b1 e.ins.length s1)):=hB.setCell (by simp;omega) _
 have hr1':Rw (u1.setCell ⟨w.heap.size+1+1,2,none⟩ (.slice b1 e.ins.length s1)) (w.heap.size+1+1+1) (.slice b1 e.ins.length s1) e.ins:=(hr1.other _ _ hz).mono (by omega)
 have hz1:w.heap.size+1+1<(u1.setCell ⟨w.heap.size+1+1,2,none⟩ (.slice b1 e.ins.length s1)).heap.size:=by simpa using zO
 clear iI zI iO fO zO hr1 hb1 hz
 generalize (u1.setCell ⟨w.heap.size+1+1,2,none⟩ (.slice b1 e.ins.length s1))=u2 at *
 refine (toIntS_any _ e.outs _ (ho.keep hB) hok.out).mono ?_
 rintro r u3 ⟨v2,rfl,hr2,hb2⟩
 obtain ⟨b2,s2,rfl⟩:=hr2.slice
 replace kR:=kR.keep hb2
 replace kO:=kO.keep hb2
 replace hB:=hB.trans (hb2.mono hB.size)
 replace hr1':=hr1'.keep hb2
 obtain ⟨iO,fO,zO⟩:=kO.cell
 obtain ⟨iR,fR,zR⟩:=kR.cell
 go_wp2_with fail
 have hr2':=hr2.mono (B':=w.heap.size+1+1+1) (by omega)
 refine bodyPost_ret (v:=.agg #[.int .i64 e.kind,.int .i64 e.value,.slice b1 e.ins.length s1,.slice b2 e.outs.length s2]) (by simp [results,Tryz.results141,go_sem,iR]) rfl ⟨_,_,rfl,?_,?_,?_⟩
 ·exact (((((hr1'.other _ _ (by simp)).other _ _ (by simp only [];omega)).other _ _ (by simp only [];omega)).other _ _ (by simp only [];omega)).other _ _ (by simp only [];omega)).mono (by omega)
 ·exact (((((hr2'.other _ _ (by simp)).other _ _ (by simp only [];omega)).other _ _ (by simp only [];omega)).other _ _ (by simp only [];omega)).other _ _ (by simp only [];omega)).mono (by omega)
 ·exact ((((hB.setCell (by simp;omega) _).setCell (by simp) _).setCell (by simp) _).setCell (by simp) _).setCell (by simp) _
structure To4 {β:Type} (e:Nat) (f:β → List Value) (z:β) (ok:World → Nat → β → Prop) (w wr:World) (g n:Nat) (ys:List β):Prop where
 row:wr.ownsRow g e 4 (.slice (some ⟨g,0,none⟩) n n) n ((ys ++ List.replicate (n - ys.length) z).flatMap f)
 els:∀ x ∈ ys,ok wr (g+1) x
 lt:g<wr.heap.size
 bel:Below g w wr
section
variable {β:Type} {e:Nat} {f:β → List Value} {z:β} {ok:World → Nat → β → Prop} (hf:∀ x,(f x).length=4)
theorem To4.start {w w1:World} {n:Nat} (hf:∀ x,(f x).length=4) (hown:w1.ownsRow w.heap.size e 4 (Value.slice (some ⟨w.heap.size,0,none⟩) n n) n (madeCells (f z).toArray (n * 4)).toList) (hgr:w.grownBy w1 none):To4 e f z ok w w1 w.heap.size n []:=by
 have hz:=made_flat (f:=f) z n (sz:=4) (by omega) (hf z)
 refine ⟨?_,by simp,(hown.lt w.heap.size rfl).2,(Below.refl _ _).grown hgr (Nat.le_refl _) (by simp)⟩
 simp only [List.nil_append,List.length_nil,Nat.sub_zero]
 rw [← hz]
 exact hown
theorem To4.old {w wr w2:World} {g n k:Nat} {ys:List β} (hf:∀ x,(f x).length=4) (h:To4 e f z ok w wr g n ys) (hk:ys.length=k) (hkn:k<n) (hb2:Below wr.heap.size wr w2) :
  (∀ j,j<4 → w2.cell? ⟨g,k * 4+j,none⟩=(f z)[j]?)∧(∀ o,w2.frozen? ⟨g,o,none⟩=false)∧g<w2.heap.size:=by
 subst hk
 have hr:=owns_keep hb2 h.row
 have hl:ys.length<(ys ++ List.replicate (n - ys.length) z).length:=by simp;omega
 refine ⟨fun j hj=>?_,fun o=>hr.frozenAt o,Nat.lt_of_lt_of_le h.lt hb2.size⟩
 have:=owns_cell hf hr ys.length j hl hj
 rw [this,List.getElem_append_right (Nat.le_refl _)]
 simp
theorem To4.step {w wr w2:World} {g n k:Nat} {ys:List β} (hf:∀ x,(f x).length=4)
  (kp:∀ {w w':World} {B:Nat} {x:β},Below w.heap.size w w' → ok w B x → ok w' B x) (lw:∀ {w:World} {B:Nat} {x:β} {a:Addr} {u:Value},a.block<B → ok w B x → ok (w.setCell a u) B x) (mn:∀ {w:World} {B B':Nat} {x:β},B'≤B → ok w B x → ok w B' x)
  (h:To4 e f z ok w wr g n ys) (hk:ys.length=k) (hkn:k<n) (hb2:Below wr.heap.size wr w2) (x:β) (hx:ok w2 wr.heap.size x) {a b c d:Value} (hy:f x=[a,b,c,d]) :
  To4 e f z ok w ((((w2.setCell ⟨g,k * 4,none⟩ a).setCell ⟨g,k * 4+1,none⟩ b).setCell ⟨g,k * 4+2,none⟩ c).setCell ⟨g,k * 4+3,none⟩ d) g n (ys ++ [x]):=by
 subst hk
 have hr:=owns_keep hb2 h.row
 have hsz:=hb2.size
 have hlt:=h.lt
 refine ⟨?_,?_,?_,?_⟩
 ·have:=set4 hf hr ys.length (by simp;omega) a b c d x hy
  have e:(ys ++ List.replicate (n - ys.length) z).set ys.length x=ys ++ [x] ++ List.replicate (n - (ys ++ [x]).length) z:=by
   rw [List.set_append_right _ _ (Nat.le_refl _),Nat.sub_self]
   obtain ⟨m,hm⟩:∃ m,n - ys.length=m+1:=⟨n - ys.length - 1,by omega⟩
   rw [hm,show n - (ys ++ [x]).length=m by simp;omega,List.replicate_succ,List.set_cons_zero,List.append_assoc]
   rfl
  rw [e] at this
  exact this
 ·intro y hy'
  have hl:∀ {y:β},ok w2 (g+1) y → ok ((((w2.setCell ⟨g,ys.length * 4,none⟩ a).setCell ⟨g,ys.length * 4+1,none⟩ b).setCell ⟨g,ys.length * 4+2,none⟩ c).setCell ⟨g,ys.length * 4+3,none⟩ d) (g+1) y:=fun h1 =>
   lw (Nat.lt_succ_self _) (lw (Nat.lt_succ_self _) (lw (Nat.lt_succ_self _) (lw (Nat.lt_succ_self _) h1)))
  rcases List.mem_append.1 hy' with h1|h1
  ·exact hl (kp hb2 (h.els y h1))
  ·simp only [List.mem_singleton] at h1
   subst h1
   exact hl (mn (by omega) hx)
 ·simp;omega
 ·exact (((((h.bel.trans (hb2.mono (by omega))).setCell (Nat.le_refl _) _).setCell (Nat.le_refl _) _).setCell (Nat.le_refl _) _).setCell (Nat.le_refl _) _)
end
def edz:EdI × Value × Value:=(⟨0,0,[],[]⟩,.slice none 0 0,.slice none 0 0)
def EdEl (w:World) (B:Nat) (x:EdI × Value × Value):Prop:=Rw w B x.2.1 x.1.ins∧Rw w B x.2.2 x.1.outs
theorem toEdgeS_any (v:Value) (L:List EdI) (w:World) (hv:EdsAt w v L) (hn:L.length≤1048576) (hs:∀ e ∈ L,EdOk e) :
  Calls Tryz.prog 68 #[v] w fun e w'=>∃ v',e=.returned v'∧EdsO w' w.heap.size v' L∧Below w.heap.size w w':=by
 obtain ⟨a,cap,rfl,hc,hat⟩:=hv
 obtain ⟨i0,hi,hz0,hz1,hz2⟩:=info_parts infoEdge
 go_enter Tryz.func68,Tryz.ntmps68
 go_wp2_with (at_make;refine wpList_make_full _ rfl _ _ _ rfl w.heap.size 189 i0 _ 4 Tryz.underlying51 hi hz0 hz1 _ _ _ _ L.length rfl rfl rfl rfl (by rw [hz2];omega) (by unfold maxLen;omega) (Nat.le_refl _) ?_;intro w1 hown hgr)
 have hst:To4 189 edCells edz EdEl w w1 w.heap.size L.length []:=To4.start edCells_len hown hgr
 clear hown hgr hi hz0 hz1 hz2
 go_loopw [4] (fun i wr=>∃ (k:Nat) (ys:List (EdI × Value × Value)),k≤L.length∧i=.int .i64 k∧ys.map Prod.fst=L.take k∧To4 189 edCells edz EdEl w wr w.heap.size L.length ys) (fun i _=>L.length - (intOf i).toNat)
 case atStart=>exact ⟨0,[],Nat.zero_le _,rfl,rfl,hst⟩
 case round =>
  clear hst
  obtain ⟨k,ys,hk,rfl,hfs,hst⟩:=hrel
  have hyl:ys.length=k:=by have:=congrArg List.length hfs;simpa [Nat.min_eq_left hk] using this
  by_cases hlt:k<L.length
  ·obtain ⟨b,o,rfl,_,hnd⟩:=hat k hlt
   have hsz0:=hst.lt
   obtain ⟨c0,c1,vi,vo,c2,c3,hvi,hvo⟩:=hnd.keep (hst.bel.mono (Nat.le_refl _))
   have hok:=hs L[k] (List.getElem_mem _)
   have hLt:L.take (k+1)=L.take k ++ [L[k]]:=List.take_succ_eq_append_getElem hlt
   have HY:=Lib.hid (And.intro hfs (And.intro hyl hLt))
   obtain ⟨a1,q1,rfl⟩:=hvi.slice
   obtain ⟨a2,q2,rfl⟩:=hvo.slice
   clear hat hnd hs hfs hyl hLt
   go_wp2_with (go_at_call 141;refine (toEdge_any L[k] _ _ _ hvi hvo hok).mono ?_;rintro r w2 ⟨u1,u2,rfl,hr1,hr2,hb2⟩;obtain ⟨d,hf2,hgz⟩:=hst.old edCells_len HY.out.2.1 hlt hb2;have d0:w2.cell? ⟨w.heap.size,k * 4,none⟩=some (.int .i64 0):=d 0 (by omega);have d1:w2.cell? ⟨w.heap.size,k * 4+1,none⟩=some (.int .i64 0):=d 1 (by omega);have d2:w2.cell? ⟨w.heap.size,k * 4+2,none⟩=some (.slice none 0 0):=d 2 (by omega);have d3:w2.cell? ⟨w.heap.size,k * 4+3,none⟩=some (.slice none 0 0):=d 3 (by omega);clear d;obtain ⟨b1,s1,rfl⟩:=hr1.slice;obtain ⟨b2,s2,rfl⟩:=hr2.slice)
   have hst2:=hst.step edCells_len (fun hb h=>⟨h.1.keep hb,h.2.keep hb⟩) (fun ha h=>⟨h.1.other _ _ ha,h.2.other _ _ ha⟩) (fun hB h=>⟨h.1.mono hB,h.2.mono hB⟩) HY.out.2.1 hlt hb2 (L[k],.slice b1 L[k].ins.length s1,.slice b2 L[k].outs.length s2) ⟨hr1,hr2⟩ rfl
   go_roundw
   case rel=>exact ⟨k+1,_,by omega,by go_num,by rw [List.map_append,HY.out.1,HY.out.2.2];rfl,hst2⟩
   case measure=>simp [intOf];omega
  ·obtain rfl:k=L.length:=by omega
   go_wp2
   go_ret
   rw [List.take_length] at hfs
   refine ⟨_,rfl,⟨ys,hfs,?_,fun x hx=>⟨(hst.els x hx).1.mono (by omega),(hst.els x hx).2.mono (by omega)⟩⟩,hst.bel⟩
   have:=hst.row
   rw [hyl] at this ⊢
   simpa using this
theorem EdsO.slice {w:World} {B:Nat} {v:Value} {xs:List EdI} (h:EdsO w B v xs):∃ a c,v=.slice a xs.length c:=h.at.slice
theorem toGraph_any (g:GrI) (ve vi vo:Value) (w:World) (hg:GrR w ve vi vo g) (hok:GrOk g) :
  Calls Tryz.prog 29 #[.agg #[.int .i64 g.wires,ve,vi,vo]] w fun r w'=>∃ ve' vi' vo',r=.returned (.agg #[.int .i64 g.wires,ve',vi',vo'])∧GrO w' w.heap.size ve' vi' vo' g∧Below w.heap.size w w':=by
 obtain ⟨⟨ae,ce,rfl⟩,⟨ai,ci,rfl⟩,ao,co,rfl⟩:=hg.slices
 go_enter Tryz.func29,Tryz.ntmps29
 go_wp2_with fail
 have kI:=((Bk.new w 42 #[.int .i64 g.wires,.slice ae g.edges.length ce,.slice ai g.ins.length ci,.slice ao g.outs.length co]).alloc (.cells #[.int .i64 0,.slice none 0 0,.slice none 0 0,.slice none 0 0] 53)).alloc (.cells #[.int .i64 g.wires,.slice none 0 0,.slice none 0 0,.slice none 0 0] 53)
 have kR:=(Bk.new (w.alloc (.cells #[.int .i64 g.wires,.slice ae g.edges.length ce,.slice ai g.ins.length ci,.slice ao g.outs.length co] 42)) 53 #[.int .i64 0,.slice none 0 0,.slice none 0 0,.slice none 0 0]).alloc (.cells #[.int .i64 g.wires,.slice none 0 0,.slice none 0 0,.slice none 0 0] 53)
 have kO:=Bk.new ((w.alloc (.cells #[.int .i64 g.wires,.slice ae g.edges.length ce,.slice ai g.ins.length ci,.slice ao g.outs.length co] 42)).alloc (.cells #[.int .i64 0,.slice none 0 0,.slice none 0 0,.slice none 0 0] 53)) 53 #[.int .i64 g.wires,.slice none 0 0,.slice none 0 0,.slice none 0 0]
 have hB:=((alloc_below w (.cells #[.int .i64 g.wires,.slice ae g.edges.length ce,.slice ai g.ins.length ci,.slice ao g.outs.length co] 42)).alloc (by simp) (.cells #[.int .i64 0,.slice none 0 0,.slice none 0 0,.slice none 0 0] 53)).alloc (by simp;omega) (.cells #[.int .i64 g.wires,.slice none 0 0,.slice none 0 0,.slice none 0 0] 53)
 have hz:w.heap.size+1+1<(((w.alloc (.cells #[.int .i64 g.wires,.slice ae g.edges.length ce,.slice ai g.ins.length ci,.slice ao g.outs.length co] 42)).alloc (.cells #[.int .i64 0,.slice none 0 0,.slice none 0 0,.slice none 0 0] 53)).alloc (.cells #[.int .i64 g.wires,.slice none 0 0,.slice none 0 0,.slice none 0 0] 53)).heap.size:=by simp
 simp only [World.size_alloc] at kR kO
 generalize (((w.alloc (.cells #[.int .i64 g.wires,.slice ae g.edges.length ce,.slice ai g.ins.length ci,.slice ao g.outs.length co] 42)).alloc (.cells #[.int .i64 0,.slice none 0 0,.slice none 0 0,.slice none 0 0] 53)).alloc (.cells #[.int .i64 g.wires,.slice none 0 0,.slice none 0 0,.slice none 0 0] 53))=u0 at *
 refine (toEdgeS_any _ g.edges _ (hg.ed.keep hB) hok.ed hok.eds).mono ?_
 rintro r u1 ⟨v1,rfl,hr1,hb1⟩
 obtain ⟨b1,s1,rfl⟩:=hr1.slice
 replace kI:=kI.keep hb1
 replace kR:=kR.keep hb1
 replace kO:=kO.keep hb1
 replace hB:=hB.trans (hb1.mono hB.size)
 obtain ⟨iI,-,zI⟩:=kI.cell
 obtain ⟨iO,fO,zO⟩:=kO.cell
 go_wp2_with fail
 replace kI:=kI.other ⟨w.heap.size+1+1,1,none⟩ (.slice b1 g.edges.length s1) (by simp;omega)
 replace kR:=kR.other ⟨w.heap.size+1+1,1,none⟩ (.slice b1 g.edges.length s1) (by simp)
 replace kO:=kO.set 1 (.slice b1 g.edges.length s1)
 replace hB:Below w.heap.size w (u1.setCell ⟨w.heap.size+1+1,1,none⟩ (.slice b1 g.edges.length s1)):=hB.setCell (by simp;omega) _
 have hr1':EdsO (u1.setCell ⟨w.heap.size+1+1,1,none⟩ (.slice b1 g.edges.length s1)) (w.heap.size+1+1+1) (.slice b1 g.edges.length s1) g.edges:=(hr1.low hz _).mono (by omega)
 have hz1:w.heap.size+1+1<(u1.setCell ⟨w.heap.size+1+1,1,none⟩ (.slice b1 g.edges.length s1)).heap.size:=by simpa using zO
 clear iI zI iO fO zO hr1 hb1 hz
 generalize (u1.setCell ⟨w.heap.size+1+1,1,none⟩ (.slice b1 g.edges.length s1))=u2 at *
 refine (toIntS_any _ g.ins _ (hg.inn.keep hB) hok.inn).mono ?_
 rintro r u3 ⟨v2,rfl,hr2,hb2⟩
 obtain ⟨b2,s2,rfl⟩:=hr2.slice
 replace kI:=kI.keep hb2
 replace kR:=kR.keep hb2
 replace kO:=kO.keep hb2
 replace hr1':=hr1'.keep hb2
 replace hB:=hB.trans (hb2.mono hB.size)
 obtain ⟨iI,-,zI⟩:=kI.cell
 obtain ⟨iO,fO,zO⟩:=kO.cell
 go_wp2_with fail
 replace kI:=kI.other ⟨w.heap.size+1+1,2,none⟩ (.slice b2 g.ins.length s2) (by simp;omega)
 replace kR:=kR.other ⟨w.heap.size+1+1,2,none⟩ (.slice b2 g.ins.length s2) (by simp)
 replace kO:=kO.set 2 (.slice b2 g.ins.length s2)
 replace hB:Below w.heap.size w (u3.setCell ⟨w.heap.size+1+1,2,none⟩ (.slice b2 g.ins.length s2)):=hB.setCell (by simp;omega) _
 have hr2':Rw (u3.setCell ⟨w.heap.size+1+1,2,none⟩ (.slice b2 g.ins.length s2)) (w.heap.size+1+1+1) (.slice b2 g.ins.length s2) g.ins:=(hr2.other _ _ hz1).mono (by omega)
 replace hr1':EdsO (u3.setCell ⟨w.heap.size+1+1,2,none⟩ (.slice b2 g.ins.length s2)) _ _ _:=hr1'.low (by simp) _
 have hz2:w.heap.size+1+1<(u3.setCell ⟨w.heap.size+1+1,2,none⟩ (.slice b2 g.ins.length s2)).heap.size:=by simpa using zO
 clear iI zI iO fO zO hr2 hb2 hz1
 generalize (u3.setCell ⟨w.heap.size+1+1,2,none⟩ (.slice b2 g.ins.length s2))=u4 at *
 refine (toIntS_any _ g.outs _ (hg.out.keep hB) hok.out).mono ?_
 rintro r u5 ⟨v3,rfl,hr3,hb3⟩
 obtain ⟨b3,s3,rfl⟩:=hr3.slice
 replace kR:=kR.keep hb3
 replace kO:=kO.keep hb3
 replace hB:=hB.trans (hb3.mono hB.size)
 replace hr1':=hr1'.keep hb3
 replace hr2':=hr2'.keep hb3
 obtain ⟨iO,fO,zO⟩:=kO.cell
 obtain ⟨iR,fR,zR⟩:=kR.cell
 go_wp2_with fail
 have hr3':=hr3.mono (B':=w.heap.size+1+1+1) (by omega)
 refine bodyPost_ret (v:=.agg #[.int .i64 g.wires,.slice b1 g.edges.length s1,.slice b2 g.ins.length s2,.slice b3 g.outs.length s3]) (by simp [results,Tryz.results29,go_sem,iR]) rfl ⟨_,_,_,rfl,⟨?_,?_,?_⟩,?_⟩
 ·exact ((((((hr1'.low (by simp) _).low (by simp only [];omega) _).low (by simp only [];omega) _).low (by simp only [];omega) _).low (by simp only [];omega) _)).mono (by omega)
 ·exact (((((hr2'.other _ _ (by simp)).other _ _ (by simp only [];omega)).other _ _ (by simp only [];omega)).other _ _ (by simp only [];omega)).other _ _ (by simp only [];omega)).mono (by omega)
 ·exact (((((hr3'.other _ _ (by simp)).other _ _ (by simp only [];omega)).other _ _ (by simp only [];omega)).other _ _ (by simp only [];omega)).other _ _ (by simp only [];omega)).mono (by omega)
 ·exact ((((hB.setCell (by simp;omega) _).setCell (by simp) _).setCell (by simp) _).setCell (by simp) _).setCell (by simp) _
theorem GrO.slices {w:World} {B:Nat} {ve vi vo:Value} {g:GrI} (h:GrO w B ve vi vo g):(∃ a c,ve=.slice a g.edges.length c)∧(∃ a c,vi=.slice a g.ins.length c)∧∃ a c,vo=.slice a g.outs.length c:=h.at.slices
end Go.Proofs.YtbljmfcifljkaaaGreatDoor
