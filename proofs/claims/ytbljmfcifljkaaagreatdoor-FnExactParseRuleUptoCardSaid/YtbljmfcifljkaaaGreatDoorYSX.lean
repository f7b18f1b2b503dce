/-
  A graph of a session, the reference's, given hgValid and hgMono. Own work.
-/
import Derived.Test.YtbljmfcifljkaaaGreatDoorYSU
import Derived.Test.YtbljmfcifljkaaaGreatDoorYSB
import Derived.BigQuiet
set_option linter.all false
set_option maxRecDepth 100000
set_option maxHeartbeats 8000000
namespace Go.Proofs.YtbljmfcifljkaaaGreatDoor
open Go.RowKit
set_option maxRecDepth 100000
set_option maxHeartbeats 4000000
end Go.Proofs.YtbljmfcifljkaaaGreatDoor
/-
  The counts of wires, two rows made and filled: the state. Own work.
-/
namespace Go.Proofs.YtbljmfcifljkaaaGreatDoor
open Go.RowKit
set_option maxRecDepth 100000
set_option maxHeartbeats 4000000
structure CtSt (w0 w:World) (bf bt n:Nat) (a b:List Int):Prop where
 bel:Below w0.heap.size w0 w
 lo:w0.heap.size≤bf∧w0.heap.size≤bt
 ne:bf ≠ bt
 rf:w.ownsRow w0.heap.size 3 1 (.slice (some ⟨bf,0,none⟩) n n) n ((cnW n a).flatMap iCell)
 rt:w.ownsRow w0.heap.size 3 1 (.slice (some ⟨bt,0,none⟩) n n) n ((cnW n b).flatMap iCell)
theorem CtSt.keep {w0 w w':World} {bf bt n:Nat} {a b:List Int} (h:CtSt w0 w bf bt n a b) (hb:Below w.heap.size w w'):CtSt w0 w' bf bt n a b :=
 ⟨h.bel.trans (hb.mono h.bel.size),h.lo,h.ne,owns_keep hb h.rf,owns_keep hb h.rt⟩
theorem CtSt.from {w0 w:World} {bf bt n:Nat} {a b:List Int} (h:CtSt w0 w bf bt n a b) (k:Nat) (hk:k<n) :
  CtSt w0 (w.setCell ⟨bf,k,none⟩ (.int .i64 ((a.count (k:Int):Int)+1))) bf bt n (a ++ [(k:Int)]) b:=by
 obtain ⟨h1,h2,h3,h4,h5⟩:=h
 refine ⟨h1.setCell h2.1 _,h2,h3,?_,owns_other h5 _ _ (by simp [Value.ownBlock];exact fun e=>h3 e.symm)⟩
 rw [cnW_snoc n a k hk]
 exact owns_set iCell_len h4 k 0 k (by rw [cnW_length];exact hk) (by omega) (by omega) _ _ (by rfl)
theorem CtSt.to {w0 w:World} {bf bt n:Nat} {a b:List Int} (h:CtSt w0 w bf bt n a b) (k:Nat) (hk:k<n) :
  CtSt w0 (w.setCell ⟨bt,k,none⟩ (.int .i64 ((b.count (k:Int):Int)+1))) bf bt n a (b ++ [(k:Int)]):=by
 obtain ⟨h1,h2,h3,h4,h5⟩:=h
 refine ⟨h1.setCell h2.2 _,h2,h3,owns_other h4 _ _ (by simp [Value.ownBlock];exact h3),?_⟩
 rw [cnW_snoc n b k hk]
 exact owns_set iCell_len h5 k 0 k (by rw [cnW_length];exact hk) (by omega) (by omega) _ _ (by rfl)
theorem CtSt.cf {w0 w:World} {bf bt n:Nat} {a b:List Int} (h:CtSt w0 w bf bt n a b) (k:Nat) (hk:k<n) :
  w.cell? ⟨bf,k,none⟩=some (.int .i64 (a.count (k:Int):Int))∧w.frozen? ⟨bf,k,none⟩=false:=by
 have s0:=owns_cell iCell_len h.rf k 0 (by rw [cnW_length];exact hk) (by omega)
 rw [cnW_get] at s0
 simp only [iCell,Nat.mul_one,Nat.add_zero,List.getElem?_cons_zero] at s0
 exact ⟨s0,h.rf.frozenAt k⟩
theorem CtSt.ct {w0 w:World} {bf bt n:Nat} {a b:List Int} (h:CtSt w0 w bf bt n a b) (k:Nat) (hk:k<n) :
  w.cell? ⟨bt,k,none⟩=some (.int .i64 (b.count (k:Int):Int))∧w.frozen? ⟨bt,k,none⟩=false:=by
 have s0:=owns_cell iCell_len h.rt k 0 (by rw [cnW_length];exact hk) (by omega)
 rw [cnW_get] at s0
 simp only [iCell,Nat.mul_one,Nat.add_zero,List.getElem?_cons_zero] at s0
 exact ⟨s0,h.rt.frozenAt k⟩
theorem CtSt.ints {w0 w:World} {bf bt n:Nat} {a b:List Int} (h:CtSt w0 w bf bt n a b) :
  IntsAt w (.slice (some ⟨bf,0,none⟩) n n) (cnW n a)∧IntsAt w (.slice (some ⟨bt,0,none⟩) n n) (cnW n b):=by
 refine ⟨Rw.at (B:=w0.heap.size) ?_,Rw.at (B:=w0.heap.size) ?_⟩
 ·unfold Rw;rw [cnW_length];exact h.rf
 ·unfold Rw;rw [cnW_length];exact h.rt
theorem CtSt.start {w0 w:World} {bf bt n:Nat} (h1:Below w0.heap.size w0 w) (h2:w0.heap.size≤bf∧w0.heap.size≤bt) (h3:bf ≠ bt)
  (h4:w.ownsRow w0.heap.size 3 1 (.slice (some ⟨bf,0,none⟩) n n) n (madeCells (iCell 0).toArray (n * 1)).toList)
  (h5:w.ownsRow w0.heap.size 3 1 (.slice (some ⟨bt,0,none⟩) n n) n (madeCells (iCell 0).toArray (n * 1)).toList):CtSt w0 w bf bt n [] []:=by
 have hz:=made_flat (f:=iCell) (0:Int) n (sz:=1) (by omega) rfl
 rw [hz] at h4 h5
 refine ⟨h1,h2,h3,?_,?_⟩
 ·rw [cnW_nil];exact h4
 ·rw [cnW_nil];exact h5
theorem take_one {α:Type} (l:List α) (k:Nat) (h:k<l.length):l.take (k+1)=l.take k ++ [l[k]]:=List.take_succ_eq_append_getElem h
theorem take_flat {α β:Type} (f:α → List β) (l:List α) (k:Nat) (h:k<l.length):(l.take (k+1)).flatMap f=(l.take k).flatMap f ++ f l[k]:=by
 rw [take_one l k h,List.flatMap_append];simp
theorem places_mem {g:GrI}:(∀ x ∈ g.ins,x ∈ g.places)∧(∀ x ∈ g.outs,x ∈ g.places)∧∀ k,∀ h:k<g.edges.length,(∀ x ∈ (g.edges[k]'h).ins,x ∈ g.places)∧∀ x ∈ (g.edges[k]'h).outs,x ∈ g.places:=by
 unfold GrI.places
 refine ⟨fun x h=>by simp [h],fun x h=>by simp [h],fun k h=>⟨fun x hx=>?_,fun x hx=>?_⟩⟩
 ·simp only [List.mem_append,List.mem_flatMap]
  exact .inr (.inr ⟨_,List.getElem_mem h,.inl hx⟩)
 ·simp only [List.mem_append,List.mem_flatMap]
  exact .inr (.inr ⟨_,List.getElem_mem h,.inr hx⟩)
end Go.Proofs.YtbljmfcifljkaaaGreatDoor
/-
  hgCounts walked: how often each wire is an origin and a destination. Own work.
-/
namespace Go.Proofs.YtbljmfcifljkaaaGreatDoor
open Go.RowKit
set_option maxRecDepth 100000
set_option maxHeartbeats 4000000
theorem flat_pre {α β:Type} (f:α → List β) (l:List α) (k:Nat) (h:k<l.length):((l.take k).flatMap f).length+(f l[k]).length≤(l.flatMap f).length:=by
 have h1:=congrArg List.length (take_flat f l k h)
 have h2:l.flatMap f=(l.take (k+1)).flatMap f ++ (l.drop (k+1)).flatMap f:=by rw [← List.flatMap_append,List.take_append_drop]
 rw [h2,List.length_append]
 rw [List.length_append] at h1
 omega
theorem wrap_cnt (a:List Int) (x:Int) (h:a.length≤2000000):IntKind.i64.wrap ((a.count x:Int)+1)=(a.count x:Int)+1:=by
 have:=cnt_le a x
 exact IntWalk.i64_in _ (by omega)
theorem hgCounts_any (g:GrI) (be bi bo:Option Addr) (de di dO:Nat) (w:World) (hR:GrR w (.slice be g.edges.length de) (.slice bi g.ins.length di) (.slice bo g.outs.length dO) g) (hok:GrOk g)
  (hn:0≤g.wires∧g.wires≤1000) (hin:∀ x ∈ g.places,0≤x∧x<g.wires) (hl1:g.origs.length≤1000000) (hl2:g.dests.length≤1000000) :
  Calls Tryz.prog 197 #[.agg #[.int .i64 g.wires,.slice be g.edges.length de,.slice bi g.ins.length di,.slice bo g.outs.length dO]] w (CntP g w):=by
 unfold CntP
 obtain ⟨n,hw⟩:∃ n:Nat,g.wires=n:=⟨g.wires.toNat,by omega⟩
 have ht:g.wires.toNat=n:=by omega
 rw [ht]
 rw [hw] at hn hin ⊢
 have hn100:n≤1000:=by omega
 obtain ⟨hp1,hp2,hp3⟩:=places_mem (g:=g)
 have HI:=Lib.hid (fun x hx=>hin x (hp1 x hx))
 have HO:=Lib.hid (fun x hx=>hin x (hp2 x hx))
 have HEI:=Lib.hid (fun k hk x hx=>hin x ((hp3 k hk).1 x hx))
 have HEO:=Lib.hid (fun k hk x hx=>hin x ((hp3 k hk).2 x hx))
 have HL:=Lib.hid (And.intro hl1 hl2)
 obtain ⟨OR,hOR⟩:∃ l,g.origs=l:=⟨_,rfl⟩
 obtain ⟨DE,hDE⟩:∃ l,g.dests=l:=⟨_,rfl⟩
 have HOR:=Lib.hid (And.intro hOR hDE)
 rw [hOR,hDE]
 clear hw ht hin hp1 hp2 hp3 hn hl1 hl2 hOR hDE
 obtain ⟨i0,hi,hz0,hz1,hz2⟩:=info_parts infoInt
 have hA:=alloc_below w (.cells #[.int .i64 n,.slice be g.edges.length de,.slice bi g.ins.length di,.slice bo g.outs.length dO] 53)
 have kG:=Bk.new w 53 #[.int .i64 n,.slice be g.edges.length de,.slice bi g.ins.length di,.slice bo g.outs.length dO]
 go_enter Tryz.func197,Tryz.ntmps197
 have hzu:w.heap.size<(w.alloc (.cells #[.int .i64 n,.slice be g.edges.length de,.slice bi g.ins.length di,.slice bo g.outs.length dO] 53)).heap.size:=by simp
 go_wp2_with (first
  | (have hq:=hown1;at_make;refine wpList_make_full _ rfl _ _ _ rfl w.heap.size 3 i0 _ 1 Tryz.underlying40 hi hz0 hz1 _ _ _ _ n rfl rfl rfl rfl (by rw [hz2];omega) (by unfold maxLen;omega) (by omega) ?_;intro x2 hown2 hgr2;have hbx2:Below x1.heap.size x1 x2:=(Below.refl _ _).grown hgr2 (Nat.le_refl _) (by simp);replace kG:=kG.keep hbx2;clear iG zG;obtain ⟨iG,-,zG⟩:=kG.cell)
  | (at_make;generalize (w.alloc (.cells #[.int .i64 n,.slice be g.edges.length de,.slice bi g.ins.length di,.slice bo g.outs.length dO] 53))=u0 at *;refine wpList_make_full _ rfl _ _ _ rfl w.heap.size 3 i0 _ 1 Tryz.underlying40 hi hz0 hz1 _ _ _ _ n rfl rfl rfl rfl (by rw [hz2];omega) (by unfold maxLen;omega) (by omega) ?_;intro x1 hown1 hgr1;have hbx1:Below u0.heap.size u0 x1:=(Below.refl _ _).grown hgr1 (Nat.le_refl _) (by simp);replace kG:=kG.keep hbx1;obtain ⟨iG,-,zG⟩:=kG.cell))
 have hlt1:u0.heap.size<x1.heap.size:=(hown1.lt u0.heap.size rfl).2
 have hlt2:x1.heap.size<x2.heap.size:=(hown2.lt x1.heap.size rfl).2
 clear iG zG
 have hB2:Below w.heap.size w x2:=hA.trans ((hbx1.trans (hbx2.mono hbx1.size)).mono hA.size)
 have hst0:CtSt w x2 u0.heap.size x1.heap.size n [] []:=CtSt.start hB2 ⟨by omega,by omega⟩ (by omega) (owns_keep hbx2 hown1) hown2
 have hFT:¬ u0.heap.size=x1.heap.size:=by omega
 have hGF:¬ w.heap.size=u0.heap.size:=by omega
 have hGT:¬ w.heap.size=x1.heap.size:=by omega
 clear hgr2 hgr1 hown1 hown2 hbx1 hbx2 hB2 hA hlt1 hlt2 hzu hi hz0 hz1 hz2
 generalize u0.heap.size=F at *
 generalize x1.heap.size=T at *
 have hori:=hR.inn
 have horo:=hR.out
 have hore:=hR.ed
 obtain ⟨pi,cpi,hei,hci,hati⟩:=hori
 simp only [Value.slice.injEq] at hei
 obtain ⟨rfl,-,rfl⟩:=hei
 have hli:=hok.inn
 go_loopw [25] (fun i wr=>∃ k:Nat,k≤g.ins.length∧i=.int .i64 k∧CtSt w wr F T n (g.ins.take k) []∧Bk wr w.heap.size 53 #[.int .i64 n,.slice be g.edges.length de,.slice bi g.ins.length di,.slice bo g.outs.length dO]) (fun i _=>g.ins.length - (intOf i).toNat)
 case atStart=>exact ⟨0,Nat.zero_le _,rfl,hst0,kG⟩
 case round =>
  clear hst0 kG
  obtain ⟨k,hk,rfl,hst,kG⟩:=hrel
  by_cases hlt:k<g.ins.length
  ·obtain ⟨b,o,rfl,_,c0⟩:=hati k hlt
   rw [Nat.mul_one] at c0
   replace c0:=cell_keep hst.bel c0
   have bz:=cell_lt c0
   have hr:=HI.out _ (List.getElem_mem hlt)
   have hT:=take_one g.ins k hlt
   obtain ⟨z,hz⟩:∃ z,g.ins[k]=z:=⟨_,rfl⟩
   rw [hz] at c0 hr hT
   obtain ⟨m,rfl⟩:∃ m:Nat,z=m:=⟨z.toNat,by omega⟩
   have hmn:m<n:=by omega
   have HT:=Lib.hid hT
   obtain ⟨s0,f0⟩:=hst.cf m hmn
   have zF:=cell_lt s0
   have hst2:=hst.from m hmn
   have kG2:=kG.other ⟨F,m,none⟩ (.int .i64 (((g.ins.take k).count (m:Int):Int)+1)) hGF
   have w1:=wrap_cnt (g.ins.take k) m (by rw [List.length_take];omega)
   clear hati hz hT hr kG hst
   go_wp2
   go_roundw
   case rel=>exact ⟨k+1,by omega,by go_num,by rw [HT.out];exact hst2,kG2⟩
   case measure=>simp [intOf];omega
  ·obtain rfl:k=g.ins.length:=by omega
   rw [List.take_length] at hst
   clear hati
   obtain ⟨iG,-,zG⟩:=kG.cell
   go_wp2_with fail
   clear iG zG
   obtain ⟨po,cpo,heo,hco,hato⟩:=horo
   simp only [Value.slice.injEq] at heo
   obtain ⟨rfl,-,rfl⟩:=heo
   have hlo:=hok.out
   go_loopw [39] (fun i wr=>∃ k:Nat,k≤g.outs.length∧i=.int .i64 k∧CtSt w wr F T n g.ins (g.outs.take k)∧Bk wr w.heap.size 53 #[.int .i64 n,.slice be g.edges.length de,.slice bi g.ins.length di,.slice bo g.outs.length dO]) (fun i _=>g.outs.length - (intOf i).toNat)
   case atStart=>exact ⟨0,Nat.zero_le _,rfl,hst,kG⟩
   case round =>
    clear hst kG
    obtain ⟨k,hk,rfl,hst,kG⟩:=hrel
    by_cases hlt:k<g.outs.length
    ·obtain ⟨b,o,rfl,_,c0⟩:=hato k hlt
     rw [Nat.mul_one] at c0
     replace c0:=cell_keep hst.bel c0
     have bz:=cell_lt c0
     have hr:=HO.out _ (List.getElem_mem hlt)
     have hT:=take_one g.outs k hlt
     obtain ⟨z,hz⟩:∃ z,g.outs[k]=z:=⟨_,rfl⟩
     rw [hz] at c0 hr hT
     obtain ⟨m,rfl⟩:∃ m:Nat,z=m:=⟨z.toNat,by omega⟩
     have hmn:m<n:=by omega
     have HT:=Lib.hid hT
     obtain ⟨s0,f0⟩:=hst.ct m hmn
     have zF:=cell_lt s0
     have hst2:=hst.to m hmn
     have kG2:=kG.other ⟨T,m,none⟩ (.int .i64 (((g.outs.take k).count (m:Int):Int)+1)) hGT
     have w1:=wrap_cnt (g.outs.take k) m (by rw [List.length_take];omega)
     clear hato hz hT hr kG hst
     go_wp2
     go_roundw
     case rel=>exact ⟨k+1,by omega,by go_num,by rw [HT.out];exact hst2,kG2⟩
     case measure=>simp [intOf];omega
    ·obtain rfl:k=g.outs.length:=by omega
     rw [List.take_length] at hst
     clear hato
     obtain ⟨iG,-,zG⟩:=kG.cell
     go_wp2_with fail
     clear iG zG kG
     obtain ⟨pe,cpe,hee,hce,hate⟩:=hore
     simp only [Value.slice.injEq] at hee
     obtain ⟨rfl,-,rfl⟩:=hee
     have hle:=hok.ed
     go_loopw [53] (fun i wr=>∃ k:Nat,k≤g.edges.length∧i=.int .i64 k∧CtSt w wr F T n (g.ins ++ (g.edges.take k).flatMap EdI.outs) (g.outs ++ (g.edges.take k).flatMap EdI.ins)) (fun i _=>g.edges.length - (intOf i).toNat)
     case atStart=>exact ⟨0,Nat.zero_le _,rfl,by simpa using hst⟩
     case round =>
      clear hst
      obtain ⟨k,hk,rfl,hst⟩:=hrel
      by_cases hlt:k<g.edges.length
      ·obtain ⟨b,o,rfl,_,hnd⟩:=hate k hlt
       obtain ⟨c0,c1,x1,x2,c2,c3,hi,ho⟩:=hnd
       replace c0:=cell_keep hst.bel c0
       replace c1:=cell_keep hst.bel c1
       replace c2:=cell_keep hst.bel c2
       replace c3:=cell_keep hst.bel c3
       have hro:=HEO.out k hlt
       have hri:=HEI.out k hlt
       have hlo1:=flat_pre EdI.outs g.edges k hlt
       have hli1:=flat_pre EdI.ins g.edges k hlt
       have hto:=take_flat EdI.outs g.edges k hlt
       have hti:=take_flat EdI.ins g.edges k hlt
       have hed:=hok.eds _ (List.getElem_mem hlt)
       have hLL:=HL.out
       unfold GrI.origs GrI.dests at hLL
       rw [List.length_append,List.length_append] at hLL
       obtain ⟨e,he⟩:∃ e,g.edges[k]=e:=⟨_,rfl⟩
       rw [he] at c0 c1 hi ho hro hri hlo1 hli1 hto hti hed
       obtain ⟨a1,q1,rfl⟩:=hi.slice
       obtain ⟨a2,q2,rfl⟩:=ho.slice
       have bz:=cell_lt c0
       obtain ⟨A,hAA⟩:∃ A,g.ins ++ (g.edges.take k).flatMap EdI.outs=A:=⟨_,rfl⟩
       obtain ⟨B,hBB⟩:∃ B,g.outs ++ (g.edges.take k).flatMap EdI.ins=B:=⟨_,rfl⟩
       have hAn:A.length+e.outs.length≤1000000:=by rw [← hAA,List.length_append];omega
       have hBn:B.length+e.ins.length≤1000000:=by rw [← hBB,List.length_append];omega
       have HA2:=Lib.hid (show g.ins ++ (g.edges.take (k+1)).flatMap EdI.outs=A ++ e.outs by rw [hto,← hAA,List.append_assoc])
       have HB2:=Lib.hid (show g.outs ++ (g.edges.take (k+1)).flatMap EdI.ins=B ++ e.ins by rw [hti,← hBB,List.append_assoc])
       rw [hAA,hBB] at hst
       have HRO:=Lib.hid hro
       have HRI:=Lib.hid hri
       have HED:=Lib.hid hed
       clear hate hAA hBB hto hti hlo1 hli1 hLL he hro hri hed
       have hAl:=alloc_below wr (.cells #[.int .i64 e.kind,.int .i64 e.value,.slice a1 e.ins.length q1,.slice a2 e.outs.length q2] 189)
       have kE:=Bk.new wr 189 #[.int .i64 e.kind,.int .i64 e.value,.slice a1 e.ins.length q1,.slice a2 e.outs.length q2]
       have hstF:F<wr.heap.size:=(World.ownsRow.lt hst.rf F rfl).2
       have hstT:T<wr.heap.size:=(World.ownsRow.lt hst.rt T rfl).2
       have hEF:¬ wr.heap.size=F:=by omega
       have hET:¬ wr.heap.size=T:=by omega
       replace hst:=hst.keep hAl
       go_wp2_with fail
       generalize (wr.alloc (.cells #[.int .i64 e.kind,.int .i64 e.value,.slice a1 e.ins.length q1,.slice a2 e.outs.length q2] 189))=u1 at *
       generalize wr.heap.size=E at *
       clear c0 c1 c2 c3 bz hAl
       obtain ⟨pq,cpq,heq,hcq,hatq⟩:=ho
       simp only [Value.slice.injEq] at heq
       obtain ⟨rfl,-,rfl⟩:=heq
       go_loopw [60] (fun i wq=>∃ j:Nat,j≤e.outs.length∧i=.int .i64 j∧CtSt w wq F T n (A ++ e.outs.take j) B∧Bk wq E 189 #[.int .i64 e.kind,.int .i64 e.value,.slice a1 e.ins.length q1,.slice a2 e.outs.length q2]) (fun i _=>e.outs.length - (intOf i).toNat)
       case atStart=>exact ⟨0,Nat.zero_le _,rfl,by simpa using hst,kE⟩
       case round =>
        clear hst kE
        obtain ⟨j,hj,rfl,hst,kE⟩:=hrel
        by_cases hjl:j<e.outs.length
        ·obtain ⟨b,o,rfl,_,c0⟩:=hatq j hjl
         rw [Nat.mul_one] at c0
         replace c0:=cell_keep hst.bel c0
         have bz:=cell_lt c0
         have hr:=HRO.out _ (List.getElem_mem hjl)
         have hT:=take_one e.outs j hjl
         obtain ⟨z,hz⟩:∃ z,e.outs[j]=z:=⟨_,rfl⟩
         rw [hz] at c0 hr hT
         obtain ⟨m,rfl⟩:∃ m:Nat,z=m:=⟨z.toNat,by omega⟩
         have hmn:m<n:=by omega
         have HT:=Lib.hid (show A ++ e.outs.take (j+1)=(A ++ e.outs.take j) ++ [(m:Int)] by rw [hT,List.append_assoc])
         obtain ⟨s0,f0⟩:=hst.cf m hmn
         have zF:=cell_lt s0
         have hst2:=hst.from m hmn
         have kE2:=kE.other ⟨F,m,none⟩ (.int .i64 (((A ++ e.outs.take j).count (m:Int):Int)+1)) hEF
         have w1:=wrap_cnt (A ++ e.outs.take j) m (by rw [List.length_append,List.length_take];omega)
         generalize (A ++ e.outs.take j).count (m:Int)=cn at s0 hst2 kE2 w1
         clear hatq hz hT hr kE hst
         go_wp2
         go_roundw
         case rel=>exact ⟨j+1,by omega,by go_num,by rw [HT.out];exact hst2,kE2⟩
         case measure=>simp [intOf];omega
        ·obtain rfl:j=e.outs.length:=by omega
         rw [List.take_length] at hst
         clear hatq
         obtain ⟨iE,-,zE⟩:=kE.cell
         go_wp2_with fail
         clear iE zE kE
         obtain ⟨pq,cpq,heq,hcq,hatq⟩:=hi
         simp only [Value.slice.injEq] at heq
         obtain ⟨rfl,-,rfl⟩:=heq
         go_loopw [74] (fun i wq=>∃ j:Nat,j≤e.ins.length∧i=.int .i64 j∧CtSt w wq F T n (A ++ e.outs) (B ++ e.ins.take j)) (fun i _=>e.ins.length - (intOf i).toNat)
         case atStart=>exact ⟨0,Nat.zero_le _,rfl,by simpa using hst⟩
         case round =>
          clear hst
          obtain ⟨j,hj,rfl,hst⟩:=hrel
          by_cases hjl:j<e.ins.length
          ·obtain ⟨b,o,rfl,_,c0⟩:=hatq j hjl
           rw [Nat.mul_one] at c0
           replace c0:=cell_keep hst.bel c0
           have bz:=cell_lt c0
           have hr:=HRI.out _ (List.getElem_mem hjl)
           have hT:=take_one e.ins j hjl
           obtain ⟨z,hz⟩:∃ z,e.ins[j]=z:=⟨_,rfl⟩
           rw [hz] at c0 hr hT
           obtain ⟨m,rfl⟩:∃ m:Nat,z=m:=⟨z.toNat,by omega⟩
           have hmn:m<n:=by omega
           have HT:=Lib.hid (show B ++ e.ins.take (j+1)=(B ++ e.ins.take j) ++ [(m:Int)] by rw [hT,List.append_assoc])
           obtain ⟨s0,f0⟩:=hst.ct m hmn
           have zF:=cell_lt s0
           have hst2:=hst.to m hmn
           have w1:=wrap_cnt (B ++ e.ins.take j) m (by rw [List.length_append,List.length_take];omega)
           generalize (B ++ e.ins.take j).count (m:Int)=cn at s0 hst2 w1
           clear hatq hz hT hr hst
           go_wp2
           go_roundw
           case rel=>exact ⟨j+1,by omega,by go_num,by rw [HT.out];exact hst2⟩
           case measure=>simp [intOf];omega
          ·obtain rfl:j=e.ins.length:=by omega
           rw [List.take_length] at hst
           clear hatq
           go_wp2
           go_roundw
           case rel=>exact ⟨k+1,by omega,by go_num,by rw [HA2.out,HB2.out];exact hst⟩
           case measure=>simp [intOf];omega
      ·obtain rfl:k=g.edges.length:=by omega
       rw [List.take_length] at hst
       clear hate
       go_wp2
       go_ret2
       obtain ⟨j1,j2⟩:=hst.ints
       refine ⟨_,_,rfl,?_,?_,hst.bel⟩
       ·rw [← HOR.out.1];exact j1
       ·rw [← HOR.out.2];exact j2
end Go.Proofs.YtbljmfcifljkaaaGreatDoor
/-
  Valid graphs, the reference's hgValid and hgMono: walked. Own work.
-/
namespace Go.Proofs.YtbljmfcifljkaaaGreatDoor
open Go.RowKit
set_option maxRecDepth 100000
set_option maxHeartbeats 4000000
theorem hgEdB_len {e:EdI} {n:Int} (h:hgEdB e n=true):e.ins.length≤2∧e.outs.length≤2:=by
 unfold hgEdB at h
 rw [Bool.and_eq_true] at h
 exact edB_len h.1
theorem flat_le2 {α β:Type} (f:α → List β):∀ l:List α,(∀ x ∈ l,(f x).length≤2) → (l.flatMap f).length≤2 * l.length
 | [],_=>by simp
 | x :: l,h=>by
  have h1:=h x (by simp)
  have h2:=flat_le2 f l (fun y hy=>h y (by simp [hy]))
  rw [List.flatMap_cons,List.length_append,List.length_cons]
  omega
theorem lens_of {g:GrI} (h1:g.edges.length≤60) (h2:g.ins.length≤12) (h3:g.outs.length≤12) (he:∀ e ∈ g.edges,e.ins.length≤2∧e.outs.length≤2):g.origs.length≤1000000∧g.dests.length≤1000000:=by
 unfold GrI.origs GrI.dests
 have a:=flat_le2 EdI.outs g.edges (fun e h=>(he e h).2)
 have b:=flat_le2 EdI.ins g.edges (fun e h=>(he e h).1)
 rw [List.length_append,List.length_append]
 omega
theorem hgB_fit {g:GrI} (h:¬ (inB g.wires 0 100=true∧g.edges.length≤60∧g.ins.length≤12∧g.outs.length≤12∧inG g.wires g.ins=true∧inG g.wires g.outs=true)):grB g=false:=by
 rw [grB_hg]
 unfold hgFitB gfitB
 rw [Bool.and_eq_false_imp]
 intro h2
 simp only [Bool.and_eq_true,decide_eq_true_eq] at h2
 exact absurd ⟨h2.1.1,h2.1.2.1,h2.1.2.2.1,h2.1.2.2.2,h2.2.1,h2.2.2⟩ h
theorem hgB_ed {g:GrI} {k:Nat} (hk:k<g.edges.length) (h:hgEdB g.edges[k] g.wires=false):grB g=false:=by
 rw [grB_hg]
 have:(g.edges.all fun e=>hgEdB e g.wires)=false:=List.all_eq_false.2 ⟨_,List.getElem_mem hk,by simp [h]⟩
 rw [this];simp
theorem hgB_rest {g:GrI} (h:inB g.wires 0 100=true∧g.edges.length≤60∧g.ins.length≤12∧g.outs.length≤12∧inG g.wires g.ins=true∧inG g.wires g.outs=true) (he:∀ j,∀ h:j<g.edges.length,hgEdB (g.edges[j]'h) g.wires=true):grB g=allG g:=by
 rw [grB_hg]
 unfold hgFitB gfitB
 have h2:(g.edges.all fun e=>hgEdB e g.wires)=true:=List.all_eq_true.2 fun e hm=>by obtain ⟨j,hj,rfl⟩:=List.mem_iff_getElem.1 hm;exact he j hj
 rw [h2,h.1,decide_eq_true h.2.1,decide_eq_true h.2.2.1,decide_eq_true h.2.2.2.1,h.2.2.2.2.1,h.2.2.2.2.2]
 rfl
theorem places_in {g:GrI} (h1:inG g.wires g.ins=true) (h2:inG g.wires g.outs=true) (he:∀ j,∀ h:j<g.edges.length,hgEdB (g.edges[j]'h) g.wires=true):∀ x ∈ g.places,0≤x∧x<g.wires:=by
 refine (inG_iff _ _).1 ?_
 unfold GrI.places
 rw [inG_append,inG_append,inG_flat,h1,h2]
 have h3:(g.edges.all fun e=>inG g.wires e.ins && inG g.wires e.outs)=true:=List.all_eq_true.2 fun e hm=>by
  obtain ⟨j,hj,rfl⟩:=List.mem_iff_getElem.1 hm
  have:=he j hj
  unfold hgEdB at this
  rw [Bool.and_eq_true] at this
  exact this.2
 rw [h3];rfl
theorem cn_at {w:World} {v:Value} {n:Nat} {l:List Int} (h:IntsAt w v (cnW n l)):∃ a c,v=.slice a n c∧n≤c∧∀ i,i<n → ∃ b o,a=some ⟨b,o,none⟩∧w.cell? ⟨b,o+i,none⟩=some (.int .i64 (l.count (i:Int):Int)):=by
 obtain ⟨a,c,hv,hc,hat⟩:=h
 rw [cnW_length] at hv hc
 refine ⟨a,c,hv,hc,fun i hi=>?_⟩
 obtain ⟨b,o,e,hl,hcell⟩:=hat i (by rw [cnW_length];exact hi)
 rw [cnW_get,Nat.mul_one] at hcell
 exact ⟨b,o,e,hcell⟩
theorem allG_no {g:GrI} {k:Nat} (hk:(k:Int)<g.wires) (h:(g.origs.count (k:Int):Int)+(g.dests.count (k:Int):Int)=0):allG g=false:=by
 cases hg:allG g with
 | false=>rfl
 | true=>exact absurd h ((allG_counts g).1 hg k hk)
theorem hgValid_any:HgV:=by
 intro ve vi vo g w hR hok
 obtain ⟨⟨ae,ce,rfl⟩,⟨ai,ci,rfl⟩,ao,co,rfl⟩:=hR.slices
 have hA:=alloc_below w (.cells #[.int .i64 g.wires,.slice ae g.edges.length ce,.slice ai g.ins.length ci,.slice ao g.outs.length co] 53)
 have hi0:=hR.inn.keep hA
 have ho0:=hR.out.keep hA
 obtain ⟨b1,hb1⟩:∃ b,allB 0 (g.wires - 1) g.ins=b:=⟨_,rfl⟩
 obtain ⟨b2,hb2⟩:∃ b,allB 0 (g.wires - 1) g.outs=b:=⟨_,rfl⟩
 by_cases hfit:inB g.wires 0 100=true∧g.edges.length≤60∧g.ins.length≤12∧g.outs.length≤12∧inG g.wires g.ins=true∧inG g.wires g.outs=true
 ·have h1:=hfit.1
  have n0:0≤g.wires∧g.wires≤100:=by simpa [inB] using h1
  have n2:¬ (60:Int)<g.edges.length:=by omega
  have n3:¬ (12:Int)<g.ins.length:=by omega
  have n4:¬ (12:Int)<g.outs.length:=by omega
  have hw1:IntKind.i64.wrap (g.wires - 1)=g.wires - 1:=IntWalk.i64_in _ (by omega)
  have e1:b1=true:=by rw [← hb1,allB_inG];exact hfit.2.2.2.2.1
  have e2:b2=true:=by rw [← hb2,allB_inG];exact hfit.2.2.2.2.2
  subst e1 e2
  have HB1:=Lib.hid hb1
  have HB2:=Lib.hid hb2
  have HF:=Lib.hid (And.intro h1 True.intro)
  have HFIT:=Lib.hid hfit
  clear h1 hfit hb1 hb2
  have hN:∃ n:Int,g.wires=n:=⟨_,rfl⟩
  go_enter Tryz.func196,Tryz.ntmps196
  go_wp2_with (first|(go_at_call 80;refine (l1In_any _ _ _ _).mono ?_;rintro r w2 ⟨rfl,rfl⟩;rw [HF.out.1])|(go_at_call 198;refine (l1All_any _ _ _ _ _ (by first|exact hi0|exact ho0) (by first|exact hok.inn|exact hok.out)).mono ?_;rintro r w2 ⟨rfl,rfl⟩;first|rw [HB1.out]|rw [HB2.out]))
  have kG:=Bk.new w 53 #[.int .i64 g.wires,.slice ae g.edges.length ce,.slice ai g.ins.length ci,.slice ao g.outs.length co]
  generalize (w.alloc (.cells #[.int .i64 g.wires,.slice ae g.edges.length ce,.slice ai g.ins.length ci,.slice ao g.outs.length co] 53))=u0 at *
  clear n2 n3 n4 hi0 ho0 hw1
  obtain ⟨pe,cpe,he,hce,hat⟩:=hR.ed
  simp only [Value.slice.injEq] at he
  obtain ⟨rfl,-,rfl⟩:=he
  have hel:=hok.ed
  go_loopw [51] (fun i wr=>∃ k:Nat,k≤g.edges.length∧i=.int .i64 k∧Below u0.heap.size u0 wr∧∀ j,∀ h:j<g.edges.length,j<k → hgEdB (g.edges[j]'h) g.wires=true) (fun i _=>g.edges.length - (intOf i).toNat)
  case atStart=>exact ⟨0,Nat.zero_le _,rfl,Below.refl _ _,fun j h1 h2=>by omega⟩
  case round =>
   obtain ⟨k,hk,rfl,hbr,hall⟩:=hrel
   have HALL:=Lib.hid hall
   clear hall
   have hbw:=hA.trans (hbr.mono hA.size)
   replace kG:=kG.keep hbr
   by_cases hlt:k<g.edges.length
   ·obtain ⟨b,o,rfl,_,hnd⟩:=hat k hlt
    obtain ⟨c0,c1,x1,x2,c2,c3,hi,ho⟩:=hnd.keep hbw
    have hokE:=hok.eds _ (List.getElem_mem hlt)
    have HNO:=Lib.hid (fun h=>hgB_ed (g:=g) hlt h)
    obtain ⟨e,hee⟩:∃ e,g.edges[k]=e:=⟨_,rfl⟩
    rw [hee] at c0 c1 hi ho hokE HNO
    have HEE:=Lib.hid hee
    obtain ⟨a1,q1,rfl⟩:=hi.slice
    obtain ⟨a2,q2,rfl⟩:=ho.slice
    have bz:=cell_lt c0
    have hB2:=alloc_below wr (.cells #[.int .i64 e.kind,.int .i64 e.value,.slice a1 e.ins.length q1,.slice a2 e.outs.length q2] 189)
    have hE:=hgEdge_any e g.wires _ _ _ n0 (hi.keep hB2) (ho.keep hB2) hokE
    obtain ⟨iG,-,zG⟩:=kG.cell
    clear hee hat hnd
    cases hed:hgEdB e g.wires with
    | false =>
     have HG:=Lib.hid (HNO.out hed)
     rw [hed] at hE
     have HE:=Lib.hid hE
     clear hE hed HNO
     go_wp2_with (go_at_call 266;refine HE.out.mono ?_;rintro r w3 ⟨rfl,hb3⟩)
     go_ret
     exact ⟨by rw [HG.out];rfl,hbw.trans ((hB2.trans (hb3.mono hB2.size)).mono hbw.size)⟩
    | true =>
     have HED:=Lib.hid hed
     rw [hed] at hE
     have HE:=Lib.hid hE
     clear hE hed HNO
     go_wp2_with (go_at_call 266;refine HE.out.mono ?_;rintro r w3 ⟨rfl,hb3⟩)
     go_roundw
     case rel=>exact ⟨k+1,by omega,by go_num,hbr.trans ((hB2.trans (hb3.mono hB2.size)).mono hbr.size),fun j h1 h2=>by
      rcases Nat.lt_or_ge j k with h|h
      ·exact HALL.out j h1 h
      ·obtain rfl:j=k:=by omega
       rw [HEE.out];exact HED.out⟩
     case measure=>simp [intOf];omega
   ·obtain rfl:k=g.edges.length:=by omega
    have hall2:∀ j,∀ h:j<g.edges.length,hgEdB (g.edges[j]'h) g.wires=true:=fun j hj=>HALL.out j hj hj
    have hrest:=hgB_rest HFIT.out hall2
    have hpin:=places_in HFIT.out.2.2.2.2.1 HFIT.out.2.2.2.2.2 hall2
    have hlens:=lens_of HFIT.out.2.1 HFIT.out.2.2.1 HFIT.out.2.2.2.1 (fun e he=>by obtain ⟨j,hj,rfl⟩:=List.mem_iff_getElem.1 he;exact hgEdB_len (hall2 j hj))
    have hC:=hgCounts_any g _ _ _ _ _ _ wr (hR.keep hbw) hok ⟨n0.1,by omega⟩ hpin hlens.1 hlens.2
    have HC:=Lib.hid hC
    have HRS:=Lib.hid hrest
    have HLN:=Lib.hid hlens
    clear hat hC hrest hpin hall2 HALL hlens
    obtain ⟨iG,-,zG⟩:=kG.cell
    go_wp2_with fail
    refine HC.out.mono ?_
    rintro r w3 ⟨v1,v2,rfl,hv1,hv2,hb3⟩
    obtain ⟨n,hn⟩:∃ n:Nat,g.wires=n:=⟨g.wires.toNat,by omega⟩
    rw [show g.wires.toNat=n by omega] at hv1 hv2
    obtain ⟨p1,s1,rfl,hs1,hat1⟩:=cn_at hv1
    obtain ⟨p2,s2,rfl,hs2,hat2⟩:=cn_at hv2
    have hbw3:=hbw.trans (hb3.mono hbw.size)
    have HN:=Lib.hid hn
    have hn100:n≤100:=by omega
    clear iG zG kG hv1 hv2 hb3 hbr HC hn
    go_wp2_with fail
    go_loopw [68] (fun i wq=>∃ k:Nat,k≤n∧i=.int .i64 k∧Below w3.heap.size w3 wq∧∀ j,j<k → ¬ ((g.origs.count (j:Int):Int)+(g.dests.count (j:Int):Int)=0)) (fun i _=>n - (intOf i).toNat)
    case atStart=>exact ⟨0,Nat.zero_le _,rfl,Below.refl _ _,fun j h2=>by omega⟩
    case round =>
     obtain ⟨k,hk,rfl,hbq,hall⟩:=hrel
     have HALL:=Lib.hid hall
     clear hall
     have hbwq:=hbw3.trans (hbq.mono hbw3.size)
     by_cases hlt:k<n
     ·obtain ⟨b,o,rfl,c1⟩:=hat1 k hlt
      obtain ⟨b',o',rfl,c2⟩:=hat2 k hlt
      replace c1:=cell_keep hbq c1
      replace c2:=cell_keep hbq c2
      have z1:=cell_lt c1
      have z2:=cell_lt c2
      have l1:=cnt_le g.origs (k:Int)
      have l2:=cnt_le g.dests (k:Int)
      have HX:=Lib.hid (fun h=>allG_no (g:=g) (k:=k) (by rw [HN.out];omega) h)
      obtain ⟨x,hx⟩:∃ x,g.origs.count (k:Int)=x:=⟨_,rfl⟩
      obtain ⟨y,hy⟩:∃ y,g.dests.count (k:Int)=y:=⟨_,rfl⟩
      rw [hx] at c1 l1 HX
      rw [hy] at c2 l2 HX
      have hL:=HLN.out
      have ws:IntKind.i64.wrap ((x:Int)+y)=(x:Int)+y:=IntWalk.i64_in _ (by omega)
      have HXY:=Lib.hid (And.intro hx hy)
      clear hat1 hat2 hx hy hL l1 l2
      cases hz:((x:Int)+y == 0) with
      | true =>
       have HG:=Lib.hid (HX.out (by simpa using hz))
       clear HX
       go_wp2_with fail
       go_quiet (fail)
       go_wp2
       go_ret
       exact ⟨by rw [HRS.out,HG.out];rfl,below_drewN hbwq _⟩
      | false =>
       have HZ:=Lib.hid hz
       clear HX
       go_wp2_with fail
       go_quiet (fail)
       go_wp2
       go_roundw
       case rel=>exact ⟨k+1,by omega,by go_num,below_drewN hbq _,fun j h2=>by
        rcases Nat.lt_or_ge j k with h|h
        ·exact HALL.out j h
        ·obtain rfl:j=k:=by omega
         rw [HXY.out.1,HXY.out.2];simpa using HZ.out⟩
       case measure=>simp [intOf];omega
     ·obtain rfl:k=n:=by omega
      have hfin:allG g=true:=(allG_counts g).2 fun j hj=>HALL.out j (by rw [HN.out] at hj;omega)
      have HG:=Lib.hid hfin
      clear hfin hat1 hat2
      go_wp2
      go_ret
      exact ⟨by rw [HRS.out,HG.out];rfl,hbwq⟩
 ·have hG:=hgB_fit hfit
  have HG:=Lib.hid hG
  cases h1:inB g.wires 0 100 with
  | false =>
   have HF:=Lib.hid (And.intro h1 True.intro)
   clear h1 hfit hG hb1 hb2
   go_enter Tryz.func196,Tryz.ntmps196
   go_wp2_with (go_at_call 80;refine (l1In_any _ _ _ _).mono ?_;rintro r w2 ⟨rfl,rfl⟩;rw [HF.out.1])
   go_ret
   exact ⟨by rw [HG.out];rfl,hA⟩
  | true =>
   have n0:0≤g.wires∧g.wires≤100:=by simpa [inB] using h1
   have hw1:IntKind.i64.wrap (g.wires - 1)=g.wires - 1:=IntWalk.i64_in _ (by omega)
   have HF:=Lib.hid (And.intro h1 True.intro)
   by_cases h2:g.edges.length≤60
   ·have n2:¬ (60:Int)<g.edges.length:=by omega
    by_cases h3:g.ins.length≤12
    ·have n3:¬ (12:Int)<g.ins.length:=by omega
     by_cases h4:g.outs.length≤12
     ·have n4:¬ (12:Int)<g.outs.length:=by omega
      have h5:¬ (b1=true∧b2=true):=by
       rintro ⟨e1,e2⟩
       exact hfit ⟨h1,h2,h3,h4,by rw [← allB_inG,hb1];exact e1,by rw [← allB_inG,hb2];exact e2⟩
      have HB1:=Lib.hid hb1
      have HB2:=Lib.hid hb2
      clear h1 hfit hG h2 h3 h4 hb1 hb2
      cases b1
      ·go_enter Tryz.func196,Tryz.ntmps196
       go_wp2_with (first|(go_at_call 80;refine (l1In_any _ _ _ _).mono ?_;rintro r w2 ⟨rfl,rfl⟩;rw [HF.out.1])|(go_at_call 198;refine (l1All_any _ _ _ _ _ (by first|exact hi0|exact ho0) (by first|exact hok.inn|exact hok.out)).mono ?_;rintro r w2 ⟨rfl,rfl⟩;first|rw [HB1.out]|rw [HB2.out]))
       go_ret
       exact ⟨by rw [HG.out];rfl,hA⟩
      ·cases b2
       ·go_enter Tryz.func196,Tryz.ntmps196
        go_wp2_with (first|(go_at_call 80;refine (l1In_any _ _ _ _).mono ?_;rintro r w2 ⟨rfl,rfl⟩;rw [HF.out.1])|(go_at_call 198;refine (l1All_any _ _ _ _ _ (by first|exact hi0|exact ho0) (by first|exact hok.inn|exact hok.out)).mono ?_;rintro r w2 ⟨rfl,rfl⟩;first|rw [HB1.out]|rw [HB2.out]))
        go_ret
        exact ⟨by rw [HG.out];rfl,hA⟩
       ·exact absurd ⟨rfl,rfl⟩ h5
     ·have n4:(12:Int)<g.outs.length:=by omega
      clear h1 hfit hG h2 h3 h4 hb1 hb2
      go_enter Tryz.func196,Tryz.ntmps196
      go_wp2_with (go_at_call 80;refine (l1In_any _ _ _ _).mono ?_;rintro r w2 ⟨rfl,rfl⟩;rw [HF.out.1])
      go_ret
      exact ⟨by rw [HG.out];rfl,hA⟩
    ·have n3:(12:Int)<g.ins.length:=by omega
     clear h1 hfit hG h2 h3 hb1 hb2
     go_enter Tryz.func196,Tryz.ntmps196
     go_wp2_with (go_at_call 80;refine (l1In_any _ _ _ _).mono ?_;rintro r w2 ⟨rfl,rfl⟩;rw [HF.out.1])
     go_ret
     exact ⟨by rw [HG.out];rfl,hA⟩
   ·have n2:(60:Int)<g.edges.length:=by omega
    clear h1 hfit hG h2 hb1 hb2
    go_enter Tryz.func196,Tryz.ntmps196
    go_wp2_with (go_at_call 80;refine (l1In_any _ _ _ _).mono ?_;rintro r w2 ⟨rfl,rfl⟩;rw [HF.out.1])
    go_ret
    exact ⟨by rw [HG.out];rfl,hA⟩
end Go.Proofs.YtbljmfcifljkaaaGreatDoor
/-
  Valid sessions, the reference's. Own work.
-/
namespace Go.Proofs.YtbljmfcifljkaaaGreatDoor
open Go.RowKit
set_option maxRecDepth 100000
set_option maxHeartbeats 4000000
end Go.Proofs.YtbljmfcifljkaaaGreatDoor
