/-
  hgCounts walked: how often each wire is an origin and a destination. Own work.
-/
import Derived.Test.YtbljmfcifljkaaaGreatDoorXAK
import Derived.Test.YtbljmfcifljkaaaGreatDoorXAF
import Derived.Test.YtbljmfcifljkaaaGreatDoorXAB
import Derived.Test.YtbljmfcifljkaaaGreatDoorXAC
import Derived.Test.YtbljmfcifljkaaaGreatDoorXAJ
import Derived.Test.YtbljmfcifljkaaaGreatDoorXAA
set_option linter.all false
set_option maxRecDepth 100000
set_option maxHeartbeats 8000000
namespace Go.Proofs.YtbljmfcifljkaaaGreatDoor
open Go.RowKit
set_option maxRecDepth 100000
set_option maxHeartbeats 4000000
theorem flat_pre {α β:Type} (f:α → List β) (l:List α) (k:Nat) (h:k<l.length):((l.take k).flatMap f).length+(f l[k]).length≤(l.flatMap f).length:=by
 have h1:=congrArg List.length (take_flat f l k h)
 have h2:l.flatMap f=(l.take (k+1)).flatMap f ++ (l.drop (k+1)).flatMap f:=by rw [← List.flatMap_append,List.take_append_drop]
 rw [h2,List.length_append]
 rw [List.length_append] at h1
 omega
theorem wrap_cnt (a:List Int) (x:Int) (h:a.length≤2000000):IntKind.i64.wrap ((a.count x:Int)+1)=(a.count x:Int)+1:=by
 have:=cnt_le a x
 exact IntWalk.i64_in _ (by omega)
theorem hgCounts_any (g:GrI) (be bi bo:Option Addr) (de di dO:Nat) (w:World) (hR:GrR w (.slice be g.edges.length de) (.slice bi g.ins.length di) (.slice bo g.outs.length dO) g) (hok:GrOk g)
  (hn:0≤g.wires∧g.wires≤1000) (hin:∀ x ∈ g.places,0≤x∧x<g.wires) (hl1:g.origs.length≤1000000) (hl2:g.dests.length≤1000000) :
  Calls Tryz.prog 197 #[.agg #[.int .i64 g.wires,.slice be g.edges.length de,.slice bi g.ins.length di,.slice bo g.outs.length dO]] w (CntP g w):=by
 unfold CntP
 obtain ⟨n,hw⟩:∃ n:Nat,g.wires=n:=⟨g.wires.toNat,by omega⟩
 have ht:g.wires.toNat=n:=by omega
 rw [ht]
 rw [hw] at hn hin ⊢
 have hn100:n≤1000:=by omega
 obtain ⟨hp1,hp2,hp3⟩:=places_mem (g:=g)
 have HI:=Lib.hid (fun x hx=>hin x (hp1 x hx))
 have HO:=Lib.hid (fun x hx=>hin x (hp2 x hx))
 have HEI:=Lib.hid (fun k hk x hx=>hin x ((hp3 k hk).1 x hx))
 have HEO:=Lib.hid (fun k hk x hx=>hin x ((hp3 k hk).2 x hx))
 have HL:=Lib.hid (And.intro hl1 hl2)
 obtain ⟨OR,hOR⟩:∃ l,g.origs=l:=⟨_,rfl⟩
 obtain ⟨DE,hDE⟩:∃ l,g.dests=l:=⟨_,rfl⟩
 have HOR:=Lib.hid (And.intro hOR hDE)
 rw [hOR,hDE]
 clear hw ht hin hp1 hp2 hp3 hn hl1 hl2 hOR hDE
 obtain ⟨i0,hi,hz0,hz1,hz2⟩:=info_parts infoInt
 have hA:=alloc_below w (.cells #[.int .i64 n,.slice be g.edges.length de,.slice bi g.ins.length di,.slice bo g.outs.length dO] 53)
 have kG:=Bk.new w 53 #[.int .i64 n,.slice be g.edges.length de,.slice bi g.ins.length di,.slice bo g.outs.length dO]
 go_enter Tryz.func197,Tryz.ntmps197
 have hzu:w.heap.size<(w.alloc (.cells #[.int .i64 n,.slice be g.edges.length de,.slice bi g.ins.length di,.slice bo g.outs.length dO] 53)).heap.size:=by simp
 go_wp2_with (first
  | (have hq:=hown1;at_make;refine wpList_make_full _ rfl _ _ _ rfl w.heap.size 3 i0 _ 1 Tryz.underlying40 hi hz0 hz1 _ _ _ _ n rfl rfl rfl rfl (by rw [hz2];omega) (by unfold maxLen;omega) (by omega) ?_;intro x2 hown2 hgr2;have hbx2:Below x1.heap.size x1 x2:=(Below.refl _ _).grown hgr2 (Nat.le_refl _) (by simp);replace kG:=kG.keep hbx2;clear iG zG;obtain ⟨iG,-,zG⟩:=kG.cell)
  | (at_make;generalize (w.alloc (.cells #[.int .i64 n,.slice be g.edges.length de,.slice bi g.ins.length di,.slice bo g.outs.length dO] 53))=u0 at *;refine wpList_make_full _ rfl _ _ _ rfl w.heap.size 3 i0 _ 1 Tryz.underlying40 hi hz0 hz1 _ _ _ _ n rfl rfl rfl rfl (by rw [hz2];omega) (by unfold maxLen;omega) (by omega) ?_;intro x1 hown1 hgr1;have hbx1:Below u0.heap.size u0 x1:=(Below.refl _ _).grown hgr1 (Nat.le_refl _) (by simp);replace kG:=kG.keep hbx1;obtain ⟨iG,-,zG⟩:=kG.cell))
 have hlt1:u0.heap.size<x1.heap.size:=(hown1.lt u0.heap.size rfl).2
 have hlt2:x1.heap.size<x2.heap.size:=(hown2.lt x1.heap.size rfl).2
 clear iG zG
 have hB2:Below w.heap.size w x2:=hA.trans ((hbx1.trans (hbx2.mono hbx1.size)).mono hA.size)
 have hst0:CtSt w x2 u0.heap.size x1.heap.size n [] []:=CtSt.start hB2 ⟨by omega,by omega⟩ (by omega) (owns_keep hbx2 hown1) hown2
 have hFT:¬ u0.heap.size=x1.heap.size:=by omega
 have hGF:¬ w.heap.size=u0.heap.size:=by omega
 have hGT:¬ w.heap.size=x1.heap.size:=by omega
 clear hgr2 hgr1 hown1 hown2 hbx1 hbx2 hB2 hA hlt1 hlt2 hzu hi hz0 hz1 hz2
 generalize u0.heap.size=F at *
 generalize x1.heap.size=T at *
 have hori:=hR.inn
 have horo:=hR.out
 have hore:=hR.ed
 obtain ⟨pi,cpi,hei,hci,hati⟩:=hori
 simp only [Value.slice.injEq] at hei
 obtain ⟨rfl,-,rfl⟩:=hei
 have hli:=hok.inn
 go_loopw [25] (fun i wr=>∃ k:Nat,k≤g.ins.length∧i=.int .i64 k∧CtSt w wr F T n (g.ins.take k) []∧Bk wr w.heap.size 53 #[.int .i64 n,.slice be g.edges.length de,.slice bi g.ins.length di,.slice bo g.outs.length dO]) (fun i _=>g.ins.length - (intOf i).toNat)
 case atStart=>exact ⟨0,Nat.zero_le _,rfl,hst0,kG⟩
 case round =>
  clear hst0 kG
  obtain ⟨k,hk,rfl,hst,kG⟩:=hrel
  by_cases hlt:k<g.ins.length
  ·obtain ⟨b,o,rfl,_,c0⟩:=hati k hlt
   rw [Nat.mul_one] at c0
   replace c0:=cell_keep hst.bel c0
   have bz:=cell_lt c0
   have hr:=HI.out _ (List.getElem_mem hlt)
   have hT:=take_one g.ins k hlt
   obtain ⟨z,hz⟩:∃ z,g.ins[k]=z:=⟨_,rfl⟩
   rw [hz] at c0 hr hT
   obtain ⟨m,rfl⟩:∃ m:Nat,z=m:=⟨z.toNat,by omega⟩
   have hmn:m<n:=by omega
   have HT:=Lib.hid hT
   obtain ⟨s0,f0⟩:=hst.cf m hmn
   have zF:=cell_lt s0
   have hst2:=hst.from m hmn
   have kG2:=kG.other ⟨F,m,none⟩ (.int .i64 (((g.ins.take k).count (m:Int):Int)+1)) hGF
   have w1:=wrap_cnt (g.ins.take k) m (by rw [List.length_take];omega)
   clear hati hz hT hr kG hst
   go_wp2
   go_roundw
   case rel=>exact ⟨k+1,by omega,by go_num,by rw [HT.out];exact hst2,kG2⟩
   case measure=>simp [intOf];omega
  ·obtain rfl:k=g.ins.length:=by omega
   rw [List.take_length] at hst
   clear hati
   obtain ⟨iG,-,zG⟩:=kG.cell
   go_wp2_with fail
   clear iG zG
   obtain ⟨po,cpo,heo,hco,hato⟩:=horo
   simp only [Value.slice.injEq] at heo
   obtain ⟨rfl,-,rfl⟩:=heo
   have hlo:=hok.out
   go_loopw [39] (fun i wr=>∃ k:Nat,k≤g.outs.length∧i=.int .i64 k∧CtSt w wr F T n g.ins (g.outs.take k)∧Bk wr w.heap.size 53 #[.int .i64 n,.slice be g.edges.length de,.slice bi g.ins.length di,.slice bo g.outs.length dO]) (fun i _=>g.outs.length - (intOf i).toNat)
   case atStart=>exact ⟨0,Nat.zero_le _,rfl,hst,kG⟩
   case round =>
    clear hst kG
    obtain ⟨k,hk,rfl,hst,kG⟩:=hrel
    by_cases hlt:k<g.outs.length
    ·obtain ⟨b,o,rfl,_,c0⟩:=hato k hlt
     rw [Nat.mul_one] at c0
     replace c0:=cell_keep hst.bel c0
     have bz:=cell_lt c0
     have hr:=HO.out _ (List.getElem_mem hlt)
     have hT:=take_one g.outs k hlt
     obtain ⟨z,hz⟩:∃ z,g.outs[k]=z:=⟨_,rfl⟩
     rw [hz] at c0 hr hT
     obtain ⟨m,rfl⟩:∃ m:Nat,z=m:=⟨z.toNat,by omega⟩
     have hmn:m<n:=by omega
     have HT:=Lib.hid hT
     obtain ⟨s0,f0⟩:=hst.ct m hmn
     have zF:=cell_lt s0
     have hst2:=hst.to m hmn
     have kG2:=kG.other ⟨T,m,none⟩ (.int .i64 (((g.outs.take k).count (m:Int):Int)+1)) hGT
     have w1:=wrap_cnt (g.outs.take k) m (by rw [List.length_take];omega)
     clear hato hz hT hr kG hst
     go_wp2
     go_roundw
     case rel=>exact ⟨k+1,by omega,by go_num,by rw [HT.out];exact hst2,kG2⟩
     case measure=>simp [intOf];omega
    ·obtain rfl:k=g.outs.length:=by omega
     rw [List.take_length] at hst
     clear hato
     obtain ⟨iG,-,zG⟩:=kG.cell
     go_wp2_with fail
     clear iG zG kG
     obtain ⟨pe,cpe,hee,hce,hate⟩:=hore
     simp only [Value.slice.injEq] at hee
     obtain ⟨rfl,-,rfl⟩:=hee
     have hle:=hok.ed
     go_loopw [53] (fun i wr=>∃ k:Nat,k≤g.edges.length∧i=.int .i64 k∧CtSt w wr F T n (g.ins ++ (g.edges.take k).flatMap EdI.outs) (g.outs ++ (g.edges.take k).flatMap EdI.ins)) (fun i _=>g.edges.length - (intOf i).toNat)
     case atStart=>exact ⟨0,Nat.zero_le _,rfl,by simpa using hst⟩
     case round =>
      clear hst
      obtain ⟨k,hk,rfl,hst⟩:=hrel
      by_cases hlt:k<g.edges.length
      ·obtain ⟨b,o,rfl,_,hnd⟩:=hate k hlt
       obtain ⟨c0,c1,x1,x2,c2,c3,hi,ho⟩:=hnd
       replace c0:=cell_keep hst.bel c0
       replace c1:=cell_keep hst.bel c1
       replace c2:=cell_keep hst.bel c2
       replace c3:=cell_keep hst.bel c3
       have hro:=HEO.out k hlt
       have hri:=HEI.out k hlt
       have hlo1:=flat_pre EdI.outs g.edges k hlt
       have hli1:=flat_pre EdI.ins g.edges k hlt
       have hto:=take_flat EdI.outs g.edges k hlt
       have hti:=take_flat EdI.ins g.edges k hlt
       have hed:=hok.eds _ (List.getElem_mem hlt)
       have hLL:=HL.out
       unfold GrI.origs GrI.dests at hLL
       rw [List.length_append,List.length_append] at hLL
       obtain ⟨e,he⟩:∃ e,g.edges[k]=e:=⟨_,rfl⟩
       rw [he] at c0 c1 hi ho hro hri hlo1 hli1 hto hti hed
       obtain ⟨a1,q1,rfl⟩:=hi.slice
       obtain ⟨a2,q2,rfl⟩:=ho.slice
       have bz:=cell_lt c0
       obtain ⟨A,hAA⟩:∃ A,g.ins ++ (g.edges.take k).flatMap EdI.outs=A:=⟨_,rfl⟩
       obtain ⟨B,hBB⟩:∃ B,g.outs ++ (g.edges.take k).flatMap EdI.ins=B:=⟨_,rfl⟩
       have hAn:A.length+e.outs.length≤1000000:=by rw [← hAA,List.length_append];omega
       have hBn:B.length+e.ins.length≤1000000:=by rw [← hBB,List.length_append];omega
       have HA2:=Lib.hid (show g.ins ++ (g.edges.take (k+1)).flatMap EdI.outs=A ++ e.outs by rw [hto,← hAA,List.append_assoc])
       have HB2:=Lib.hid (show g.outs ++ (g.edges.take (k+1)).flatMap EdI.ins=B ++ e.ins by rw [hti,← hBB,List.append_assoc])
       rw [hAA,hBB] at hst
       have HRO:=Lib.hid hro
       have HRI:=Lib.hid hri
       have HED:=Lib.hid hed
       clear hate hAA hBB hto hti hlo1 hli1 hLL he hro hri hed
       have hAl:=alloc_below wr (.cells #[.int .i64 e.kind,.int .i64 e.value,.slice a1 e.ins.length q1,.slice a2 e.outs.length q2] 189)
       have kE:=Bk.new wr 189 #[.int .i64 e.kind,.int .i64 e.value,.slice a1 e.ins.length q1,.slice a2 e.outs.length q2]
       have hstF:F<wr.heap.size:=(World.ownsRow.lt hst.rf F rfl).2
       have hstT:T<wr.heap.size:=(World.ownsRow.lt hst.rt T rfl).2
       have hEF:¬ wr.heap.size=F:=by omega
       have hET:¬ wr.heap.size=T:=by omega
       replace hst:=hst.keep hAl
       go_wp2_with fail
       generalize (wr.alloc (.cells #[.int .i64 e.kind,.int .i64 e.value,.slice a1 e.ins.length q1,.slice a2 e.outs.length q2] 189))=u1 at *
       generalize wr.heap.size=E at *
       clear c0 c1 c2 c3 bz hAl
       obtain ⟨pq,cpq,heq,hcq,hatq⟩:=ho
       simp only [Value.slice.injEq] at heq
       obtain ⟨rfl,-,rfl⟩:=heq
       go_loopw [60] (fun i wq=>∃ j:Nat,j≤e.outs.length∧i=.int .i64 j∧CtSt w wq F T n (A ++ e.outs.take j) B∧Bk wq E 189 #[.int .i64 e.kind,.int .i64 e.value,.slice a1 e.ins.length q1,.slice a2 e.outs.length q2]) (fun i _=>e.outs.length - (intOf i).toNat)
       case atStart=>exact ⟨0,Nat.zero_le _,rfl,by simpa using hst,kE⟩
       case round =>
        clear hst kE
        obtain ⟨j,hj,rfl,hst,kE⟩:=hrel
        by_cases hjl:j<e.outs.length
        ·obtain ⟨b,o,rfl,_,c0⟩:=hatq j hjl
         rw [Nat.mul_one] at c0
         replace c0:=cell_keep hst.bel c0
         have bz:=cell_lt c0
         have hr:=HRO.out _ (List.getElem_mem hjl)
         have hT:=take_one e.outs j hjl
         obtain ⟨z,hz⟩:∃ z,e.outs[j]=z:=⟨_,rfl⟩
         rw [hz] at c0 hr hT
         obtain ⟨m,rfl⟩:∃ m:Nat,z=m:=⟨z.toNat,by omega⟩
         have hmn:m<n:=by omega
         have HT:=Lib.hid (show A ++ e.outs.take (j+1)=(A ++ e.outs.take j) ++ [(m:Int)] by rw [hT,List.append_assoc])
         obtain ⟨s0,f0⟩:=hst.cf m hmn
         have zF:=cell_lt s0
         have hst2:=hst.from m hmn
         have kE2:=kE.other ⟨F,m,none⟩ (.int .i64 (((A ++ e.outs.take j).count (m:Int):Int)+1)) hEF
         have w1:=wrap_cnt (A ++ e.outs.take j) m (by rw [List.length_append,List.length_take];omega)
         generalize (A ++ e.outs.take j).count (m:Int)=cn at s0 hst2 kE2 w1
         clear hatq hz hT hr kE hst
         go_wp2
         go_roundw
         case rel=>exact ⟨j+1,by omega,by go_num,by rw [HT.out];exact hst2,kE2⟩
         case measure=>simp [intOf];omega
        ·obtain rfl:j=e.outs.length:=by omega
         rw [List.take_length] at hst
         clear hatq
         obtain ⟨iE,-,zE⟩:=kE.cell
         go_wp2_with fail
         clear iE zE kE
         obtain ⟨pq,cpq,heq,hcq,hatq⟩:=hi
         simp only [Value.slice.injEq] at heq
         obtain ⟨rfl,-,rfl⟩:=heq
         go_loopw [74] (fun i wq=>∃ j:Nat,j≤e.ins.length∧i=.int .i64 j∧CtSt w wq F T n (A ++ e.outs) (B ++ e.ins.take j)) (fun i _=>e.ins.length - (intOf i).toNat)
         case atStart=>exact ⟨0,Nat.zero_le _,rfl,by simpa using hst⟩
         case round =>
          clear hst
          obtain ⟨j,hj,rfl,hst⟩:=hrel
          by_cases hjl:j<e.ins.length
          ·obtain ⟨b,o,rfl,_,c0⟩:=hatq j hjl
           rw [Nat.mul_one] at c0
           replace c0:=cell_keep hst.bel c0
           have bz:=cell_lt c0
           have hr:=HRI.out _ (List.getElem_mem hjl)
           have hT:=take_one e.ins j hjl
           obtain ⟨z,hz⟩:∃ z,e.ins[j]=z:=⟨_,rfl⟩
           rw [hz] at c0 hr hT
           obtain ⟨m,rfl⟩:∃ m:Nat,z=m:=⟨z.toNat,by omega⟩
           have hmn:m<n:=by omega
           have HT:=Lib.hid (show B ++ e.ins.take (j+1)=(B ++ e.ins.take j) ++ [(m:Int)] by rw [hT,List.append_assoc])
           obtain ⟨s0,f0⟩:=hst.ct m hmn
           have zF:=cell_lt s0
           have hst2:=hst.to m hmn
           have w1:=wrap_cnt (B ++ e.ins.take j) m (by rw [List.length_append,List.length_take];omega)
           generalize (B ++ e.ins.take j).count (m:Int)=cn at s0 hst2 w1
           clear hatq hz hT hr hst
           go_wp2
           go_roundw
           case rel=>exact ⟨j+1,by omega,by go_num,by rw [HT.out];exact hst2⟩
           case measure=>simp [intOf];omega
          ·obtain rfl:j=e.ins.length:=by omega
           rw [List.take_length] at hst
           clear hatq
           go_wp2
           go_roundw
           case rel=>exact ⟨k+1,by omega,by go_num,by rw [HA2.out,HB2.out];exact hst⟩
           case measure=>simp [intOf];omega
      ·obtain rfl:k=g.edges.length:=by omega
       rw [List.take_length] at hst
       clear hate
       go_wp2
       go_ret2
       obtain ⟨j1,j2⟩:=hst.ints
       refine ⟨_,_,rfl,?_,?_,hst.bel⟩
       ·rw [← HOR.out.1];exact j1
       ·rw [← HOR.out.2];exact j2
end Go.Proofs.YtbljmfcifljkaaaGreatDoor
/-
  Good graphs over a field, the reference's, given hgValid. Own work.
-/
namespace Go.Proofs.YtbljmfcifljkaaaGreatDoor
open Go.RowKit
set_option maxRecDepth 100000
set_option maxHeartbeats 4000000
theorem lt_no {p:Int} {g:GrI} {k:Nat} (hk:k<g.edges.length) (h:¬ g.edges[k].value<p):(g.edges.all fun e=>decide (e.value<p))=false :=
 List.all_eq_false.2 ⟨_,List.getElem_mem hk,by simp [h]⟩
theorem lt_yes {p:Int} {g:GrI} (h:∀ j,∀ hj:j<g.edges.length,(g.edges[j]'hj).value<p):(g.edges.all fun e=>decide (e.value<p))=true :=
 List.all_eq_true.2 fun e he=>by obtain ⟨j,hj,rfl⟩:=List.mem_iff_getElem.1 he;exact decide_eq_true (h j hj)
def HgV:Prop:=∀ (ve vi vo:Value) (g:GrI) (u:World),GrR u ve vi vo g → GrOk g → Calls Tryz.prog 196 #[.agg #[.int .i64 g.wires,ve,vi,vo]] u (FlP (grB g) u)
theorem hgGood_any (hV:HgV) (p:Int) (ve vi vo:Value) (g:GrI) (w:World) (hR:GrR w ve vi vo g) (hok:GrOk g) :
  Calls Tryz.prog 133 #[.int .i64 p,.agg #[.int .i64 g.wires,ve,vi,vo]] w (FlP (primeB p && (grB g && overB p g)) w):=by
 obtain ⟨⟨ae,ce,rfl⟩,⟨ai,ci,rfl⟩,ao,co,rfl⟩:=hR.slices
 have hA:=alloc_below w (.cells #[.int .i64 g.wires,.slice ae g.edges.length ce,.slice ai g.ins.length ci,.slice ao g.outs.length co] 53)
 have hF:=fdGood_any p (w.alloc (.cells #[.int .i64 g.wires,.slice ae g.edges.length ce,.slice ai g.ins.length ci,.slice ao g.outs.length co] 53))
 cases hp:primeB p with
 | false =>
  rw [hp] at hF
  have HF:=Lib.hid hF
  clear hF hp
  go_enter Tryz.func133,Tryz.ntmps133
  go_wp2_with (go_at_call 79;refine HF.out.mono ?_;rintro r w1 ⟨rfl,hb1⟩)
  go_ret
  exact ⟨rfl,hA.trans (hb1.mono hA.size)⟩
 | true =>
  rw [hp] at hF
  have hp0:0<p:=by have:=primeB_le hp;omega
  have HF:=Lib.hid hF
  clear hF hp
  have hG:=fun (w1:World) (hb:Below w.heap.size w w1)=>hV _ _ _ g w1 (hR.keep hb) hok
  cases hg:grB g with
  | false =>
   rw [hg] at hG
   have HG:=Lib.hid hG
   clear hG hg
   go_enter Tryz.func133,Tryz.ntmps133
   have kG:=Bk.new w 53 #[.int .i64 g.wires,.slice ae g.edges.length ce,.slice ai g.ins.length ci,.slice ao g.outs.length co]
   go_wp2_with fail
   generalize (w.alloc (.cells #[.int .i64 g.wires,.slice ae g.edges.length ce,.slice ai g.ins.length ci,.slice ao g.outs.length co] 53))=u0 at *
   refine HF.out.mono ?_
   rintro r w1 ⟨rfl,hb1⟩
   replace kG:=kG.keep hb1
   have hB1:=hA.trans (hb1.mono hA.size)
   obtain ⟨iG,-,zG⟩:=kG.cell
   go_wp2_with fail
   refine (HG.out _ hB1).mono ?_
   rintro r w2 ⟨rfl,hb2⟩
   go_wp2
   go_ret
   exact ⟨rfl,hB1.trans (hb2.mono hB1.size)⟩
  | true =>
   rw [hg] at hG
   have hpp:0<p:=hp0
   rw [over_lt hg hpp]
   have HG:=Lib.hid hG
   clear hG hg
   go_enter Tryz.func133,Tryz.ntmps133
   have kG:=Bk.new w 53 #[.int .i64 g.wires,.slice ae g.edges.length ce,.slice ai g.ins.length ci,.slice ao g.outs.length co]
   go_wp2_with fail
   generalize (w.alloc (.cells #[.int .i64 g.wires,.slice ae g.edges.length ce,.slice ai g.ins.length ci,.slice ao g.outs.length co] 53))=u0 at *
   refine HF.out.mono ?_
   rintro r w1 ⟨rfl,hb1⟩
   replace kG:=kG.keep hb1
   have hB1:=hA.trans (hb1.mono hA.size)
   obtain ⟨iG,-,zG⟩:=kG.cell
   go_wp2_with fail
   refine (HG.out _ hB1).mono ?_
   rintro r w2 ⟨rfl,hb2⟩
   clear iG zG
   replace kG:=kG.keep hb2
   have hB2:=hB1.trans (hb2.mono hB1.size)
   obtain ⟨iG,-,zG⟩:=kG.cell
   go_wp2_with fail
   clear hb1 hb2 hB1 iG zG kG hA
   obtain ⟨pe,cpe,he,hce,hat⟩:=hR.ed
   simp only [Value.slice.injEq] at he
   obtain ⟨rfl,-,rfl⟩:=he
   have hel:=hok.ed
   go_loopw [18] (fun i wr=>∃ k:Nat,k≤g.edges.length∧i=.int .i64 k∧Below w.heap.size w wr∧∀ j,∀ h:j<g.edges.length,j<k → (g.edges[j]'h).value<p) (fun i _=>g.edges.length - (intOf i).toNat)
   case atStart=>exact ⟨0,Nat.zero_le _,rfl,hB2,fun j h1 h2=>by omega⟩
   case round =>
    clear hB2
    obtain ⟨k,hk,rfl,hbw,hall⟩:=hrel
    have HALL:=Lib.hid hall
    clear hall
    by_cases hlt:k<g.edges.length
    ·obtain ⟨b,o,rfl,_,hnd⟩:=hat k hlt
     obtain ⟨c0,c1,x1,x2,c2,c3,hi,ho⟩:=hnd.keep hbw
     obtain ⟨a1,q1,rfl⟩:=hi.slice
     obtain ⟨a2,q2,rfl⟩:=ho.slice
     have bz:=cell_lt c0
     have hB3:=hbw.trans ((alloc_below wr (.cells #[.int .i64 g.edges[k].kind,.int .i64 g.edges[k].value,.slice a1 g.edges[k].ins.length q1,.slice a2 g.edges[k].outs.length q2] 189)).mono hbw.size)
     by_cases hlp:g.edges[k].value<p
     ·have HNEW:=Lib.hid hlp
      have hge:¬ p≤g.edges[k].value:=by omega
      clear hlp hat hnd
      go_wp2
      go_roundw
      case rel=>exact ⟨k+1,by omega,by go_num,hB3,fun j h1 h2=>by
       rcases Nat.lt_or_ge j k with h|h
       ·exact HALL.out j h1 h
       ·obtain rfl:j=k:=by omega
        exact HNEW.out⟩
      case measure=>simp [intOf];omega
     ·have HNEW:=Lib.hid (lt_no hlt hlp)
      have hge:p≤g.edges[k].value:=by omega
      clear hlp hat hnd
      go_wp2
      go_ret
      exact ⟨by rw [HNEW.out];rfl,hB3⟩
    ·obtain rfl:k=g.edges.length:=by omega
     have hfin:(g.edges.all fun e=>decide (e.value<p))=true:=lt_yes fun j hj=>HALL.out j hj hj
     have HFIN:=Lib.hid hfin
     clear hfin hat
     go_wp2
     go_ret
     exact ⟨by rw [HFIN.out];rfl,hbw⟩
end Go.Proofs.YtbljmfcifljkaaaGreatDoor
/-
  The size checks of edges, graphs and sessions. Own work.
-/
namespace Go.Proofs.YtbljmfcifljkaaaGreatDoor
open Go.RowKit
theorem szIntS_any (v:Value) (zs:List Int) (left:Int) (w:World) (hv:IntsAt w v zs) (hn:zs.length≤1048576) (h0:0≤left) (h1:left≤1048576) :
  Calls Tryz.prog 65 #[v,.int .i64 left] w (SzPost left w):=by
 obtain ⟨a,cap,rfl,hc,hat⟩:=hv
 go_enter Tryz.func65,Tryz.ntmps65
 go_wp2
 all_goals
  go_ret
  exact ⟨_,rfl,by omega,by omega,Below.refl _ _⟩
theorem szEdge_any (k v:Int) (vi vo:Value) (e:EdI) (left:Int) (w:World) (hi:IntsAt w vi e.ins) (ho:IntsAt w vo e.outs) (hok:EdOk e) (h0:0≤left) (h1:left≤1048576) :
  Calls Tryz.prog 132 #[.agg #[.int .i64 k,.int .i64 v,vi,vo],.int .i64 left] w (SzPost left w):=by
 obtain ⟨a,cap,rfl⟩:=hi.slice
 obtain ⟨a',cap',rfl⟩:=ho.slice
 obtain ⟨n1,n2⟩:=hok
 have hA:=alloc_below w (.cells #[.int .i64 k,.int .i64 v,.slice a e.ins.length cap,.slice a' e.outs.length cap'] 187)
 go_enter Tryz.func132,Tryz.ntmps132
 go_wp2_with fail
 refine (szIntS_any _ e.ins _ _ (hi.keep hA) n1 (by omega) (by omega)).mono ?_
 rintro r w1 ⟨r1,rfl,q0,q1,hb1⟩
 have hB1:=hA.trans (hb1.mono (by simp))
 have c0:=hb1.cell (p:=⟨w.heap.size,2,none⟩) (by simp)
 have c1:=hb1.cell (p:=⟨w.heap.size,3,none⟩) (by simp)
 simp [go_sem] at c0 c1
 have z1:=cell_lt c0
 by_cases hneg:r1<0
 ·go_wp2
  go_ret
  exact ⟨_,rfl,by omega,by omega,hB1⟩
 ·go_wp2_with fail
  refine (szIntS_any _ e.outs _ _ (ho.keep hB1) n2 (by omega) (by omega)).mono ?_
  rintro r w2 ⟨r2,rfl,q2,q3,hb2⟩
  have hB2:=hB1.trans (hb2.mono hB1.size)
  go_wp2
  all_goals
   go_ret
   exact ⟨_,rfl,by omega,by omega,hB2⟩
theorem szEdgeS_any (v:Value) (L:List EdI) (left:Int) (w:World) (hv:EdsAt w v L) (hs:∀ d ∈ L,EdOk d) (hn:L.length≤1048576) (h0:0≤left) (h1:left≤1048576) :
  Calls Tryz.prog 64 #[v,.int .i64 left] w (SzPost left w):=by
 obtain ⟨a,cap,rfl,hc,hat⟩:=hv
 go_enter Tryz.func64,Tryz.ntmps64
 go_wp2
 ·go_ret
  exact ⟨_,rfl,by omega,by omega,Below.refl _ _⟩
 ·go_loopw [1,5] (fun l i wr=>∃ (k:Nat) (r:Int),k≤L.length∧i=.int .i64 k∧l=.int .i64 r∧0≤r∧r≤left∧Below w.heap.size w wr) (fun _ i _=>L.length - (intOf i).toNat)
  case atStart=>exact ⟨0,_,Nat.zero_le _,rfl,rfl,by omega,by omega,Below.refl _ _⟩
  case round =>
   obtain ⟨k,r,hk,rfl,rfl,hr0,hr1,hbel⟩:=hrel
   by_cases hlt:k<L.length
   ·obtain ⟨b,o,rfl,_,hnd⟩:=hat k hlt
    obtain ⟨c0,c1,vi,vo,c2,c3,hvi,hvo⟩:=hnd.keep hbel
    obtain ⟨va,vc,rfl⟩:=hvi.slice
    obtain ⟨va',vc',rfl⟩:=hvo.slice
    have hsz:=hs L[k] (List.getElem_mem _)
    clear hat hnd hs
    go_wp2_with (go_at_call 132;refine (szEdge_any _ _ _ _ L[k] _ _ hvi hvo hsz (by omega) (by omega)).mono ?_;rintro e w' ⟨r',rfl,q0,q1,hb2⟩)
    ·go_ret
     exact ⟨_,rfl,by omega,by omega,hbel.trans (hb2.mono (by have:=hbel.size;omega))⟩
    ·go_roundw
     case rel=>exact ⟨k+1,_,by omega,by go_num,rfl,by omega,by omega,hbel.trans (hb2.mono (by have:=hbel.size;omega))⟩
     case measure=>simp [intOf];omega
   ·go_wp2
    go_ret
    exact ⟨_,rfl,by omega,by omega,hbel⟩
theorem szGraph_any (n:Int) (ve vi vo:Value) (g:GrI) (left:Int) (w:World) (hg:GrR w ve vi vo g) (hok:GrOk g) (h0:0≤left) (h1:left≤1048576) :
  Calls Tryz.prog 27 #[.agg #[.int .i64 n,ve,vi,vo],.int .i64 left] w (SzPost left w):=by
 obtain ⟨⟨ae,ce,rfl⟩,⟨ai,ci,rfl⟩,ao,co,rfl⟩:=hg.slices
 have hA:=alloc_below w (.cells #[.int .i64 n,.slice ae g.edges.length ce,.slice ai g.ins.length ci,.slice ao g.outs.length co] 42)
 go_enter Tryz.func27,Tryz.ntmps27
 go_wp2_with fail
 refine (szEdgeS_any _ g.edges _ _ (hg.ed.keep hA) hok.eds hok.ed (by omega) (by omega)).mono ?_
 rintro r w1 ⟨r1,rfl,q0,q1,hb1⟩
 have hB1:=hA.trans (hb1.mono (by simp))
 have c0:=hb1.cell (p:=⟨w.heap.size,2,none⟩) (by simp)
 have c1:=hb1.cell (p:=⟨w.heap.size,3,none⟩) (by simp)
 simp [go_sem] at c0 c1
 have z1:=cell_lt c0
 by_cases hneg:r1<0
 ·go_wp2
  go_ret
  exact ⟨_,rfl,by omega,by omega,hB1⟩
 ·go_wp2_with fail
  refine (szIntS_any _ g.ins _ _ (hg.inn.keep hB1) hok.inn (by omega) (by omega)).mono ?_
  rintro r w2 ⟨r2,rfl,q2,q3,hb2⟩
  have hB2:=hB1.trans (hb2.mono hB1.size)
  replace c1:=cell_keep hb2 c1
  have z2:=cell_lt c1
  by_cases hneg2:r2<0
  ·go_wp2
   go_ret
   exact ⟨_,rfl,by omega,by omega,hB2⟩
  ·go_wp2_with fail
   refine (szIntS_any _ g.outs _ _ (hg.out.keep hB2) hok.out (by omega) (by omega)).mono ?_
   rintro r w3 ⟨r3,rfl,q4,q5,hb3⟩
   have hB3:=hB2.trans (hb3.mono hB2.size)
   go_wp2
   all_goals
    go_ret
    exact ⟨_,rfl,by omega,by omega,hB3⟩
end Go.Proofs.YtbljmfcifljkaaaGreatDoor
/-
  The laws' comparisons of edges, graphs and sessions that are equal. Own work.
-/
namespace Go.Proofs.YtbljmfcifljkaaaGreatDoor
open Go.RowKit
set_option maxRecDepth 100000
set_option maxHeartbeats 2000000
theorem eqIntS_same (v v':Value) (a:List Int) (w:World) (hv:IntsAt w v a) (hv':IntsAt w v' a) (hn:a.length≤1048576) :
  Calls Tryz.prog 74 #[v,v'] w (FlP true w):=by
 obtain ⟨p,cap,rfl,hc,hat⟩:=hv
 obtain ⟨p',cap',rfl,hc',hat'⟩:=hv'
 have hl1:((a.length:Int) != a.length)=false:=by simp
 go_enter Tryz.func74,Tryz.ntmps74
 go_wp2
 go_loopw [5] (fun i wr=>∃ k:Nat,k≤a.length∧i=.int .i64 k∧Below w.heap.size w wr) (fun i _=>a.length - (intOf i).toNat)
 case atStart=>exact ⟨0,Nat.zero_le _,rfl,Below.refl _ _⟩
 case round =>
  obtain ⟨k,hk,rfl,hbel⟩:=hrel
  by_cases hlt:k<a.length
  ·obtain ⟨g,o,rfl,_,c0⟩:=hat k hlt
   obtain ⟨g',o',rfl,_,d0⟩:=hat' k hlt
   rw [Nat.mul_one] at c0 d0
   replace c0:=cell_keep hbel c0
   replace d0:=cell_keep hbel d0
   obtain ⟨z,hz⟩:∃ z,a[k]=z:=⟨_,rfl⟩
   rw [hz] at c0 d0
   have hzz:(z != z)=false:=by simp
   clear hat hat' hz
   go_wp2_with fail
   go_still_tail 8,(by kernel_rfl)
   go_wp2_with fail
   have hs:=hbel.drew.size
   go_roundw
   case rel=>exact ⟨k+1,by omega,by go_num,hbel.drew⟩
   case measure=>simp [intOf];omega
  ·go_wp2
   go_ret
   exact ⟨rfl,hbel⟩
theorem eqEdge_same (k v:Int) (vi vo vi' vo':Value) (e:EdI) (w:World) (hi:IntsAt w vi e.ins) (ho:IntsAt w vo e.outs) (hi':IntsAt w vi' e.ins) (ho':IntsAt w vo' e.outs) (hok:EdOk e) :
  Calls Tryz.prog 155 #[.agg #[.int .i64 k,.int .i64 v,vi,vo],.agg #[.int .i64 k,.int .i64 v,vi',vo']] w (FlP true w):=by
 obtain ⟨a1,q1,rfl⟩:=hi.slice
 obtain ⟨a2,q2,rfl⟩:=ho.slice
 obtain ⟨a3,q3,rfl⟩:=hi'.slice
 obtain ⟨a4,q4,rfl⟩:=ho'.slice
 have hA:∀ x y,Below w.heap.size w ((w.alloc x).alloc y):=fun x y=>(alloc_below _ _).alloc (by simp) _
 have hk:(k != k)=false:=by simp
 have hv:(v != v)=false:=by simp
 go_enter Tryz.func155,Tryz.ntmps155
 go_wp2_with fail
 refine (eqIntS_same _ _ e.ins _ (hi.keep (hA _ _)) (hi'.keep (hA _ _)) hok.inn).mono ?_
 rintro r w1 ⟨rfl,hb1⟩
 have hB1:=(hA (.cells #[.int .i64 k,.int .i64 v,.slice a1 e.ins.length q1,.slice a2 e.outs.length q2] 189) (.cells #[.int .i64 k,.int .i64 v,.slice a3 e.ins.length q3,.slice a4 e.outs.length q4] 189)).trans (hb1.mono (by simp;omega))
 have c0:=hb1.cell (p:=⟨w.heap.size,3,none⟩) (by simp;omega)
 have c1:=hb1.cell (p:=⟨w.heap.size+1,3,none⟩) (by simp)
 simp [go_sem] at c0 c1
 have z0:=cell_lt c0
 have z1:=cell_lt c1
 go_wp2_with fail
 refine (eqIntS_same _ _ e.outs _ (ho.keep hB1) (ho'.keep hB1) hok.out).mono ?_
 rintro r w2 ⟨rfl,hb2⟩
 go_wp2
 go_ret
 exact ⟨rfl,hB1.trans (hb2.mono hB1.size)⟩
theorem eqEdgeS_same (v v':Value) (a:List EdI) (w:World) (hv:EdsAt w v a) (hv':EdsAt w v' a) (hn:a.length≤1048576) (hs:∀ e ∈ a,EdOk e) :
  Calls Tryz.prog 73 #[v,v'] w (FlP true w):=by
 obtain ⟨p,cap,rfl,hc,hat⟩:=hv
 obtain ⟨p',cap',rfl,hc',hat'⟩:=hv'
 have hl1:((a.length:Int) != a.length)=false:=by simp
 go_enter Tryz.func73,Tryz.ntmps73
 go_wp2
 go_loopw [5] (fun i wr=>∃ k:Nat,k≤a.length∧i=.int .i64 k∧Below w.heap.size w wr) (fun i _=>a.length - (intOf i).toNat)
 case atStart=>exact ⟨0,Nat.zero_le _,rfl,Below.refl _ _⟩
 case round =>
  obtain ⟨k,hk,rfl,hbel⟩:=hrel
  by_cases hlt:k<a.length
  ·obtain ⟨g,o,rfl,_,hnd⟩:=hat k hlt
   obtain ⟨g',o',rfl,_,hnd'⟩:=hat' k hlt
   obtain ⟨c0,c1,vi,vo,c2,c3,hi,ho⟩:=hnd.keep hbel
   obtain ⟨d0,d1,vi',vo',d2,d3,hi',ho'⟩:=hnd'.keep hbel
   have hok:=hs a[k] (List.getElem_mem _)
   obtain ⟨a1,q1,rfl⟩:=hi.slice
   obtain ⟨a2,q2,rfl⟩:=ho.slice
   obtain ⟨a3,q3,rfl⟩:=hi'.slice
   obtain ⟨a4,q4,rfl⟩:=ho'.slice
   clear hat hat' hnd hnd' hs
   go_wp2_with fail
   go_still_tail 8,(by kernel_rfl)
   go_wp2_with (go_at_call 155;refine (eqEdge_same _ _ _ _ _ _ a[k] wr.drew hi ho hi' ho' hok).mono ?_;rintro e w2 ⟨rfl,hb2⟩)
   have hs:=hbel.drew.size
   go_roundw
   case rel=>exact ⟨k+1,by omega,by go_num,hbel.drew.trans (hb2.mono (by omega))⟩
   case measure=>simp [intOf];omega
  ·go_wp2
   go_ret
   exact ⟨rfl,hbel⟩
theorem eqGraph_same (n:Int) (ve vi vo ve' vi' vo':Value) (g:GrI) (w:World) (h:GrR w ve vi vo g) (h':GrR w ve' vi' vo' g) (hok:GrOk g) :
  Calls Tryz.prog 32 #[.agg #[.int .i64 n,ve,vi,vo],.agg #[.int .i64 n,ve',vi',vo']] w (FlP true w):=by
 obtain ⟨⟨a0,q0,rfl⟩,⟨a1,q1,rfl⟩,a2,q2,rfl⟩:=h.slices
 obtain ⟨⟨b0,r0,rfl⟩,⟨b1,r1,rfl⟩,b2,r2,rfl⟩:=h'.slices
 have hA:∀ x y,Below w.heap.size w ((w.alloc x).alloc y):=fun x y=>(alloc_below _ _).alloc (by simp) _
 have hk:(n != n)=false:=by simp
 go_enter Tryz.func32,Tryz.ntmps32
 go_wp2_with fail
 refine (eqEdgeS_same _ _ g.edges _ (h.ed.keep (hA _ _)) (h'.ed.keep (hA _ _)) hok.ed hok.eds).mono ?_
 rintro r w1 ⟨rfl,hb1⟩
 have hB1:=(hA (.cells #[.int .i64 n,.slice a0 g.edges.length q0,.slice a1 g.ins.length q1,.slice a2 g.outs.length q2] 53) (.cells #[.int .i64 n,.slice b0 g.edges.length r0,.slice b1 g.ins.length r1,.slice b2 g.outs.length r2] 53)).trans (hb1.mono (by simp;omega))
 have c0:=hb1.cell (p:=⟨w.heap.size,2,none⟩) (by simp;omega)
 have c1:=hb1.cell (p:=⟨w.heap.size+1,2,none⟩) (by simp)
 have d0:=hb1.cell (p:=⟨w.heap.size,3,none⟩) (by simp;omega)
 have d1:=hb1.cell (p:=⟨w.heap.size+1,3,none⟩) (by simp)
 simp [go_sem] at c0 c1 d0 d1
 have z0:=cell_lt c0
 have z1:=cell_lt c1
 go_wp2_with fail
 refine (eqIntS_same _ _ g.ins _ (h.inn.keep hB1) (h'.inn.keep hB1) hok.inn).mono ?_
 rintro r w2 ⟨rfl,hb2⟩
 have hB2:=hB1.trans (hb2.mono hB1.size)
 replace d0:=cell_keep hb2 d0
 replace d1:=cell_keep hb2 d1
 have y0:=cell_lt d0
 have y1:=cell_lt d1
 go_wp2_with fail
 refine (eqIntS_same _ _ g.outs _ (h.out.keep hB2) (h'.out.keep hB2) hok.out).mono ?_
 rintro r w3 ⟨rfl,hb3⟩
 go_wp2
 go_ret
 exact ⟨rfl,hB2.trans (hb3.mono hB2.size)⟩
end Go.Proofs.YtbljmfcifljkaaaGreatDoor
