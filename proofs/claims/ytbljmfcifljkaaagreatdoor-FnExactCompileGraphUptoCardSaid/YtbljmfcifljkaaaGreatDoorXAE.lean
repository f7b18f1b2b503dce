/-
  Valid graphs: the program's isGraph and what it calls. Own work.
-/
import Derived.Test.YtbljmfcifljkaaaGreatDoorXCA
import Derived.Test.YtbljmfcifljkaaaGreatDoorXAD
set_option linter.all false
set_option maxRecDepth 100000
set_option maxHeartbeats 8000000
namespace Go.Proofs.YtbljmfcifljkaaaGreatDoor
open Go.RowKit
set_option maxRecDepth 100000
set_option maxHeartbeats 4000000
def bCell (b:Bool):List Value:=[.bool b]
theorem bCell_len (b:Bool):(bCell b).length=1:=rfl
def seenL (n:Nat) (vis:List Int):List Bool:=(List.range n).map fun i:Nat=>vis.contains (i:Int)
theorem seenL_len (n:Nat) (vis:List Int):(seenL n vis).length=n:=by simp [seenL]
theorem seenL_get (n:Nat) (vis:List Int) (i:Nat) (h:i<(seenL n vis).length):(seenL n vis)[i]=vis.contains (i:Int):=by simp [seenL]
theorem seenL_nil (n:Nat):seenL n []=List.replicate n false:=by
 apply List.ext_getElem
 ·simp [seenL]
 ·intro i h1 h2;simp [seenL]
theorem seenL_out (n:Nat) (vis:List Int) (z:Int) (hz:¬ (0≤z∧z<n)):seenL n (vis ++ [z])=seenL n vis:=by
 unfold seenL
 apply List.map_congr_left
 intro i hi
 have hi':i<n:=List.mem_range.1 hi
 have:¬ (i:Int)=z:=fun e=>hz ⟨by omega,by omega⟩
 rw [Bool.eq_iff_iff];simp [this]
theorem seenL_in (n:Nat) (vis:List Int) (k:Nat) (hk:k<n):seenL n (vis ++ [(k:Int)])=(seenL n vis).set k true:=by
 apply List.ext_getElem
 ·simp [seenL]
 ·intro i h1 h2
  rw [List.getElem_set]
  simp only [seenL,List.getElem_map,List.getElem_range]
  by_cases e:k=i
  ·subst e;simp
  ·rw [if_neg e]
   have:¬ (i:Int)=(k:Int):=fun h=>e (by omega)
   rw [Bool.eq_iff_iff];simp [this]
def cntL (n:Nat) (vis:List Int):Nat:=(seenL n vis).count true
theorem count_set (l:List Bool) (k:Nat) (hk:k<l.length):(l.set k true).count true=l.count true+if l[k]=true then 0 else 1:=by
 induction l generalizing k with
 | nil=>simp at hk
 | cons b l ih =>
  cases k with
  | zero=>cases b <;> simp
  | succ k =>
   have:=ih k (by simpa using hk)
   rw [List.set_cons_succ,List.count_cons,List.count_cons,this,List.getElem_cons_succ]
   omega
theorem cntL_le (n:Nat) (vis:List Int):cntL n vis≤n:=by
 have:=List.count_le_length (a:=true) (l:=seenL n vis)
 rw [seenL_len] at this
 exact this
theorem count_full:∀ (l:List Bool),l.count true=l.length ↔ ∀ b ∈ l,b=true
 | []=>by simp
 | b :: l=>by
  have h1:=count_full l
  have h2:=List.count_le_length (a:=true) (l:=l)
  cases b
  ·simp;omega
  ·simp only [List.count_cons_self,List.length_cons,List.mem_cons,forall_eq_or_imp,true_and]
   rw [← h1];omega
theorem cntL_all (n:Nat) (vis:List Int):decide ((cntL n vis:Int)=n)=(List.range n).all fun w:Nat=>vis.contains (w:Int):=by
 rw [Bool.eq_iff_iff,decide_eq_true_eq,List.all_eq_true]
 have:=count_full (seenL n vis)
 rw [seenL_len] at this
 constructor
 ·intro h x hx
  exact this.1 (by unfold cntL at h;omega) _ (by unfold seenL;exact List.mem_map_of_mem hx)
 ·intro h
  have h2:=this.2 (fun b hb=>by
   obtain ⟨x,hx,rfl⟩:=List.mem_map.1 hb
   exact h x hx)
  unfold cntL
  omega
theorem inG_snoc (n:Int) (l:List Int) (z:Int):inG n (l ++ [z])=(inG n l && inB z 0 (n - 1)):=by simp [inG]
structure SnSt (w0 w:World) (gb kb sb cb sg:Nat) (n:Nat) (vis:List Int):Prop where
 bel:Below w0.heap.size w0 w
 lo:w0.heap.size≤kb∧w0.heap.size≤cb∧w0.heap.size≤sg
 ne:kb ≠ cb∧kb ≠ sg∧cb ≠ sg
 gne:gb ≠ kb∧gb ≠ cb∧gb ≠ sg
 sne:sb ≠ kb∧sb ≠ cb∧sb ≠ sg
 g:w.cell? ⟨gb,0,none⟩=some (.int .i64 (n:Int))
 good:Bk w kb 4 #[.bool (inG n vis)]
 seen:w.cell? ⟨sb,0,none⟩=some (.slice (some ⟨sg,0,none⟩) n n)
 row:w.ownsRow w0.heap.size 4 1 (.slice (some ⟨sg,0,none⟩) n n) n ((seenL n vis).flatMap bCell)
 cnt:Bk w cb 3 #[.int .i64 (cntL n vis:Int)]
theorem SnSt.keep {w0 w w':World} {gb kb sb cb sg n:Nat} {vis:List Int} (h:SnSt w0 w gb kb sb cb sg n vis) (hb:Below w.heap.size w w'):SnSt w0 w' gb kb sb cb sg n vis :=
 ⟨h.bel.trans (hb.mono h.bel.size),h.lo,h.ne,h.gne,h.sne,cell_keep hb h.g,h.good.keep hb,cell_keep hb h.seen,owns_keep hb h.row,h.cnt.keep hb⟩
theorem SnSt.out {w0 w:World} {gb kb sb cb sg n:Nat} {vis:List Int} (h:SnSt w0 w gb kb sb cb sg n vis) (z:Int) (hz:inB z 0 ((n:Int) - 1)=false):SnSt w0 (w.setCell ⟨kb,0,none⟩ (.bool false)) gb kb sb cb sg n (vis ++ [z]):=by
 have hz2:¬ (0≤z∧z<n):=by intro ⟨h1,h2⟩;simp [inB] at hz;omega
 obtain ⟨h1,h2,h3,h4,h5,h6,h7,h8,h9,h10⟩:=h
 refine ⟨h1.setCell h2.1 _,h2,h3,h4,h5,?_,?_,?_,?_,?_⟩
 ·rw [World.cell?_setCell_other _ ⟨kb,0,none⟩ ⟨gb,0,none⟩ _ (by simp <;> omega)];exact h6
 ·rw [inG_snoc,hz,Bool.and_false];exact h7.set 0 _
 ·rw [World.cell?_setCell_other _ ⟨kb,0,none⟩ ⟨sb,0,none⟩ _ (by simp <;> omega)];exact h8
 ·rw [seenL_out n vis z hz2];exact owns_other h9 _ _ (by simp [Value.ownBlock];exact fun e=>h3.2.1 e.symm)
 ·unfold cntL;rw [seenL_out n vis z hz2];exact h10.other _ _ (fun e=>h3.1 e.symm)
theorem SnSt.again {w0 w:World} {gb kb sb cb sg n:Nat} {vis:List Int} (h:SnSt w0 w gb kb sb cb sg n vis) (k:Nat) (hk:k<n) (hs:vis.contains (k:Int)=true):SnSt w0 w gb kb sb cb sg n (vis ++ [(k:Int)]):=by
 have hin:inB (k:Int) 0 ((n:Int) - 1)=true:=by simp [inB];omega
 have hsee:seenL n (vis ++ [(k:Int)])=seenL n vis:=by
  rw [seenL_in n vis k hk]
  apply List.ext_getElem
  ·simp
  ·intro i h1 h2
   rw [List.getElem_set]
   split
   ·rename_i e;subst e;rw [seenL_get];exact hs.symm
   ·rfl
 obtain ⟨h1,h2,h3,h4,h5,h6,h7,h8,h9,h10⟩:=h
 refine ⟨h1,h2,h3,h4,h5,h6,?_,h8,?_,?_⟩
 ·rw [inG_snoc,hin,Bool.and_true];exact h7
 ·rw [hsee];exact h9
 ·unfold cntL;rw [hsee];exact h10
theorem SnSt.new {w0 w:World} {gb kb sb cb sg n:Nat} {vis:List Int} (h:SnSt w0 w gb kb sb cb sg n vis) (k:Nat) (hk:k<n) (hs:vis.contains (k:Int)=false) :
  SnSt w0 ((w.setCell ⟨sg,k,none⟩ (.bool true)).setCell ⟨cb,0,none⟩ (.int .i64 ((cntL n vis:Int)+1))) gb kb sb cb sg n (vis ++ [(k:Int)]):=by
 have hin:inB (k:Int) 0 ((n:Int) - 1)=true:=by simp [inB];omega
 have hc:cntL n (vis ++ [(k:Int)])=cntL n vis+1:=by
  unfold cntL
  rw [seenL_in n vis k hk,count_set _ k (by rw [seenL_len];exact hk),seenL_get,hs]
  simp
 obtain ⟨h1,h2,h3,h4,h5,h6,h7,h8,h9,h10⟩:=h
 refine ⟨(h1.setCell h2.2.2 _).setCell h2.2.1 _,h2,h3,h4,h5,?_,?_,?_,?_,?_⟩
 ·rw [World.cell?_setCell_other _ ⟨cb,0,none⟩ ⟨gb,0,none⟩ _ (by simp <;> omega),World.cell?_setCell_other _ ⟨sg,k,none⟩ ⟨gb,0,none⟩ _ (by simp <;> omega)];exact h6
 ·rw [inG_snoc,hin,Bool.and_true];exact (h7.other _ _ h3.2.1).other _ _ h3.1
 ·rw [World.cell?_setCell_other _ ⟨cb,0,none⟩ ⟨sb,0,none⟩ _ (by simp <;> omega),World.cell?_setCell_other _ ⟨sg,k,none⟩ ⟨sb,0,none⟩ _ (by simp <;> omega)];exact h8
 ·rw [seenL_in n vis k hk]
  refine owns_other ?_ _ _ (by simp [Value.ownBlock];exact fun e=>h3.2.2 e.symm)
  exact owns_set bCell_len h9 k 0 k (by rw [seenL_len];exact hk) (by omega) (by omega) (.bool true) true rfl
 ·rw [hc]
  have:=(h10.other ⟨sg,k,none⟩ (.bool true) h3.2.2).set 0 (.int .i64 ((cntL n vis:Int)+1))
  exact this
def TSn (kb sg cb:Nat):Nat → Prop:=fun j=>j=kb∨j=sg∨j=cb
theorem visit_any (v:Value) (zs:List Int) (w0 w:World) (gb kb sb cb sg n:Nat) (vis:List Int) (hv:IntsAt w0 v zs) (hn:n≤100) (hz:zs.length≤1048576) (h:SnSt w0 w gb kb sb cb sg n vis) :
  Calls Tryz.prog 256 #[v,.pointer (some ⟨gb,0,none⟩),.pointer (some ⟨kb,0,none⟩),.pointer (some ⟨sb,0,none⟩),.pointer (some ⟨cb,0,none⟩)] w fun e w'=>e=.returned (.tuple #[])∧SnSt w0 w' gb kb sb cb sg n (vis ++ zs)∧Exc (TSn kb sg cb) w w':=by
 obtain ⟨a,cap,rfl,hc,hat⟩:=hv
 go_enter Tryz.func256,Tryz.ntmps256
 go_wp2
 go_loopw [10] (fun i wr=>∃ k:Nat,k≤zs.length∧i=.int .i64 k∧SnSt w0 wr gb kb sb cb sg n (vis ++ zs.take k)∧Exc (TSn kb sg cb) w wr) (fun i _=>zs.length - (intOf i).toNat)
 case atStart=>exact ⟨0,Nat.zero_le _,rfl,by simpa using h,Exc.refl _ _⟩
 case round =>
  obtain ⟨k,hk,rfl,hst,hex⟩:=hrel
  clear h
  by_cases hlt:k<zs.length
  ·obtain ⟨b,o,rfl,_,c0⟩:=hat k hlt
   rw [Nat.mul_one] at c0
   replace c0:=cell_keep hst.bel c0
   obtain ⟨z,hzz⟩:∃ z,zs[k]=z:=⟨_,rfl⟩
   have hT1:vis ++ zs.take (k+1)=(vis ++ zs.take k) ++ [z]:=by rw [List.take_succ_eq_append_getElem hlt,hzz,List.append_assoc]
   rw [hzz] at c0
   have HT:=Lib.hid hT1
   obtain ⟨iK,fK,zK⟩:=hst.good.cell
   obtain ⟨iC,fC,zC⟩:=hst.cnt.cell
   have cg:=hst.g
   have zg:=cell_lt cg
   have cs:=hst.seen
   have zs':=cell_lt cs
   have bz:=cell_lt c0
   have k0:=iK 0
   have d0:=iC 0
   simp at k0 d0
   clear hat hzz hT1 iK iC
   have w1:IntKind.i64.wrap ((n:Int) - 1)=(n:Int) - 1:=IntWalk.i64_in _ (by omega)
   cases hin:inB z 0 ((n:Int) - 1) with
   | false =>
    have HIN:=Lib.hid hin
    have hst2:=hst.out z hin
    clear hin
    go_wp2_with (go_at_call 128;refine (within_any _ _ _ _).mono ?_;rintro r w2 ⟨rfl,rfl⟩;rw [HIN.out])
    go_roundw
    case rel=>exact ⟨k+1,by omega,by go_num,by rw [HT.out];exact hst2,exc_set hex (.inr (.inl rfl)) _⟩
    case measure=>simp [intOf];omega
   | true =>
    have hz2:0≤z∧z<n:=by simp [inB] at hin;omega
    obtain ⟨m,rfl⟩:∃ m:Nat,z=m:=⟨z.toNat,by omega⟩
    have hmn:m<n:=by omega
    have HIN:=Lib.hid hin
    clear hin hz2
    have hrow:=hst.row
    have s0:=owns_cell bCell_len hrow m 0 (by rw [seenL_len];exact hmn) (by omega)
    rw [seenL_get] at s0
    have f0:=hrow.frozenAt m
    simp only [bCell,Nat.mul_one,Nat.add_zero,List.getElem?_cons_zero] at s0
    have zg2:=cell_lt s0
    have hcl:=cntL_le n (vis ++ zs.take k)
    have w2:IntKind.i64.wrap ((cntL n (vis ++ zs.take k):Int)+1)=(cntL n (vis ++ zs.take k):Int)+1:=IntWalk.i64_in _ (by omega)
    cases hs:(vis ++ zs.take k).contains (m:Int) with
    | true =>
     rw [hs] at s0
     have hst2:=hst.again m hmn hs
     clear hs hrow
     go_wp2_with (go_at_call 128;refine (within_any _ _ _ _).mono ?_;rintro r w2 ⟨rfl,rfl⟩;rw [HIN.out])
     go_roundw
     case rel=>exact ⟨k+1,by omega,by go_num,by rw [HT.out];exact hst2,hex⟩
     case measure=>simp [intOf];omega
    | false =>
     rw [hs] at s0
     have hst2:=hst.new m hmn hs
     have hne:=hst.ne
     have hcs:¬ cb=sg:=hne.2.2
     have hsc:¬ sg=cb:=fun e=>hne.2.2 e.symm
     clear hs hrow hne
     go_wp2_with (go_at_call 128;refine (within_any _ _ _ _).mono ?_;rintro r w2 ⟨rfl,rfl⟩;rw [HIN.out])
     go_roundw
     case rel=>exact ⟨k+1,by omega,by go_num,by rw [HT.out];exact hst2,exc_set (exc_set hex (.inr (.inr (.inl rfl))) _) (.inr (.inr (.inr rfl))) _⟩
     case measure=>simp [intOf];omega
  ·obtain rfl:k=zs.length:=by omega
   rw [List.take_length] at hst
   go_wp2
   exact bodyPost_end (v:=.tuple #[]) (by simp [results,Tryz.results256,go_sem]) rfl ⟨rfl,hst,hex⟩
end Go.Proofs.YtbljmfcifljkaaaGreatDoor
/-
  Valid graphs: the program's lists and isGraph. Own work.
-/
namespace Go.Proofs.YtbljmfcifljkaaaGreatDoor
open Go.RowKit
set_option maxRecDepth 100000
set_option maxHeartbeats 4000000
theorem SnSt.notT {w0 w:World} {gb kb sb cb sg n:Nat} {vis:List Int} (h:SnSt w0 w gb kb sb cb sg n vis) (b:Nat) (hb:w.heap.size≤b):¬ TSn kb sg cb b:=by
 have h1:=h.good.lt
 have h2:=h.cnt.lt
 have h3:=(World.ownsRow.lt h.row sg (by simp [Value.ownBlock])).2
 rintro (rfl|rfl|rfl) <;> omega
theorem lists_any (z:Int) (ve vi vo:Value) (g:GrI) (w0 w:World) (gb kb sb cb sg n:Nat) (hR:GrR w0 ve vi vo g) (hok:GrOk g) (hn:n≤100) (h:SnSt w0 w gb kb sb cb sg n []) :
  Calls Tryz.prog 255 #[.agg #[.int .i64 z,ve,vi,vo],(.func (.func 256) #[] #[.pointer (some ⟨gb,0,none⟩),.pointer (some ⟨kb,0,none⟩),.pointer (some ⟨sb,0,none⟩),.pointer (some ⟨cb,0,none⟩)])] w fun e w'=>e=.returned (.tuple #[])∧SnSt w0 w' gb kb sb cb sg n g.places:=by
 obtain ⟨⟨ae,ce,rfl⟩,⟨ai,ci,rfl⟩,ao,co,rfl⟩:=hR.slices
 have hpl:g.places=(g.ins ++ g.outs) ++ g.edges.flatMap fun e=>e.ins ++ e.outs:=by unfold GrI.places;rw [List.append_assoc]
 have HPL:=Lib.hid hpl
 clear hpl
 go_enter Tryz.func255,Tryz.ntmps255
 go_wp2_with fail
 have kI:=Bk.new w 53 #[.int .i64 z,.slice ae g.edges.length ce,.slice ai g.ins.length ci,.slice ao g.outs.length co]
 have hnT:=h.notT w.heap.size (Nat.le_refl _)
 have hs0:=h.keep (alloc_below w (.cells #[.int .i64 z,.slice ae g.edges.length ce,.slice ai g.ins.length ci,.slice ao g.outs.length co] 53))
 clear h
 generalize (w.alloc (.cells #[.int .i64 z,.slice ae g.edges.length ce,.slice ai g.ins.length ci,.slice ao g.outs.length co] 53))=u0 at *
 refine (visit_any _ g.ins w0 _ gb kb sb cb sg n [] hR.inn hn hok.inn hs0).mono ?_
 rintro r u1 ⟨rfl,hs1,hx1⟩
 rw [List.nil_append] at hs1
 replace kI:=kI.exc hx1 hnT
 obtain ⟨iI,-,zI⟩:=kI.cell
 clear hx1 hs0
 go_wp2_with fail
 refine (visit_any _ g.outs w0 _ gb kb sb cb sg n g.ins hR.out hn hok.out hs1).mono ?_
 clear iI zI
 rintro r u2 ⟨rfl,hs2,hx2⟩
 replace kI:=kI.exc hx2 hnT
 obtain ⟨iI,-,zI⟩:=kI.cell
 clear hx2 hs1
 go_wp2_with fail
 clear iI zI kI hnT
 obtain ⟨pe,cpe,he,hce,hat⟩:=hR.ed
 simp only [Value.slice.injEq] at he
 obtain ⟨rfl,-,rfl⟩:=he
 have hel:=hok.ed
 go_loopw [17] (fun i wr=>∃ k:Nat,k≤g.edges.length∧i=.int .i64 k∧SnSt w0 wr gb kb sb cb sg n ((g.ins ++ g.outs) ++ (g.edges.take k).flatMap fun e=>e.ins ++ e.outs)) (fun i _=>g.edges.length - (intOf i).toNat)
 case atStart=>exact ⟨0,Nat.zero_le _,rfl,by simpa using hs2⟩
 case round =>
  clear hs2
  obtain ⟨k,hk,rfl,hst⟩:=hrel
  by_cases hlt:k<g.edges.length
  ·obtain ⟨b,o,rfl,_,hnd⟩:=hat k hlt
   obtain ⟨c0,c1,x1,x2,c2,c3,hi0,ho0⟩:=hnd.keep hst.bel
   obtain ⟨d0,d1,y1,y2,d2,d3,hi,ho⟩:=hnd
   obtain rfl:x1=y1:=by have:=cell_keep hst.bel d2;rw [c2] at this;exact Option.some.inj this
   obtain rfl:x2=y2:=by have:=cell_keep hst.bel d3;rw [c3] at this;exact Option.some.inj this
   obtain ⟨a1,q1,rfl⟩:=hi.slice
   obtain ⟨a2,q2,rfl⟩:=ho.slice
   have bz:=cell_lt c0
   have hok1:=hok.eds _ (List.getElem_mem hlt)
   have hT1:(g.edges.take (k+1)).flatMap (fun e=>e.ins ++ e.outs)=(g.edges.take k).flatMap (fun e=>e.ins ++ e.outs) ++ (g.edges[k].ins ++ g.edges[k].outs):=by
    rw [List.take_succ_eq_append_getElem hlt,List.flatMap_append];simp
   have HT:=Lib.hid hT1
   clear hT1 hat d0 d1 d2 d3 hi0 ho0
   go_wp2_with fail
   have kI:=Bk.new wr 189 #[.int .i64 g.edges[k].kind,.int .i64 g.edges[k].value,.slice a1 g.edges[k].ins.length q1,.slice a2 g.edges[k].outs.length q2]
   have hnT:=hst.notT wr.heap.size (Nat.le_refl _)
   have hs0:=hst.keep (alloc_below wr (.cells #[.int .i64 g.edges[k].kind,.int .i64 g.edges[k].value,.slice a1 g.edges[k].ins.length q1,.slice a2 g.edges[k].outs.length q2] 189))
   clear hst c0 c1 c2 c3 bz
   generalize (wr.alloc (.cells #[.int .i64 g.edges[k].kind,.int .i64 g.edges[k].value,.slice a1 g.edges[k].ins.length q1,.slice a2 g.edges[k].outs.length q2] 189))=u3 at *
   refine (visit_any _ g.edges[k].ins w0 _ gb kb sb cb sg n _ hi hn hok1.inn hs0).mono ?_
   rintro r u4 ⟨rfl,hs1,hx1⟩
   replace kI:=kI.exc hx1 hnT
   obtain ⟨iI,-,zI⟩:=kI.cell
   clear hx1 hs0
   go_wp2_with fail
   refine (visit_any _ g.edges[k].outs w0 _ gb kb sb cb sg n _ ho hn hok1.out hs1).mono ?_
   clear iI zI
   rintro r u5 ⟨rfl,hs2,hx2⟩
   clear hx2 hs1 kI
   go_wp2_with fail
   go_roundw
   case rel=>exact ⟨k+1,by omega,by go_num,by rw [HT.out];simpa [List.append_assoc] using hs2⟩
   case measure=>simp [intOf];omega
  ·obtain rfl:k=g.edges.length:=by omega
   rw [List.take_length,← HPL.out] at hst
   go_wp2
   exact bodyPost_end (v:=.tuple #[]) (by simp [results,Tryz.results255,go_sem]) rfl ⟨rfl,hst⟩
end Go.Proofs.YtbljmfcifljkaaaGreatDoor
/-
  Valid graphs: the program's isGraph. Own work.
-/
namespace Go.Proofs.YtbljmfcifljkaaaGreatDoor
open Go.RowKit
set_option maxRecDepth 100000
set_option maxHeartbeats 4000000
theorem infoBool:(Tryz.prog.info? 4).map (fun i=>(i.zero,i.size,i.bytes))=some (some (.bool false),1,1):=by kernel_rfl
theorem grB_fit {g:GrI} (h:¬ (inB g.wires 0 100=true∧g.edges.length≤60∧g.ins.length≤12∧g.outs.length≤12)):grB g=false:=by
 unfold grB gfitB
 rw [Bool.and_eq_false_imp]
 intro h2
 simp only [Bool.and_eq_true,decide_eq_true_eq] at h2
 exact absurd ⟨h2.1,h2.2.1,h2.2.2.1,h2.2.2.2⟩ h
theorem grB_ed {g:GrI} {k:Nat} (hk:k<g.edges.length) (h:edB g.edges[k]=false):grB g=false:=by
 unfold grB
 have:g.edges.all edB=false:=List.all_eq_false.2 ⟨_,List.getElem_mem hk,by simp [h]⟩
 rw [this];simp
theorem grB_rest {g:GrI} (h:inB g.wires 0 100=true∧g.edges.length≤60∧g.ins.length≤12∧g.outs.length≤12) (he:∀ e ∈ g.edges,edB e=true):grB g=(inG g.wires g.places && allG g):=by
 unfold grB gfitB
 rw [h.1,decide_eq_true h.2.1,decide_eq_true h.2.2.1,decide_eq_true h.2.2.2,List.all_eq_true.2 he]
 rfl
theorem edB_len {e:EdI} (h:edB e=true):e.ins.length≤2∧e.outs.length≤2:=by
 unfold edB at h
 simp only [Bool.and_eq_true,decide_eq_true_eq] at h
 have h2:(kindW e.kind).1≤2∧(kindW e.kind).2≤2:=by
  unfold kindW
  repeat' split
  all_goals simp
 rw [h.2.2] at h2
 simp only at h2
 omega
theorem isGraph_any (ve vi vo:Value) (g:GrI) (w:World) (hR:GrR w ve vi vo g) (hok:GrOk g) :
  Calls Tryz.prog 189 #[.agg #[.int .i64 g.wires,ve,vi,vo]] w (FlP (grB g) w):=by
 obtain ⟨⟨ae,ce,rfl⟩,⟨ai,ci,rfl⟩,ao,co,rfl⟩:=hR.slices
 have hA:=alloc_below w (.cells #[.int .i64 g.wires,.slice ae g.edges.length ce,.slice ai g.ins.length ci,.slice ao g.outs.length co] 53)
 by_cases hfit:inB g.wires 0 100=true∧g.edges.length≤60∧g.ins.length≤12∧g.outs.length≤12
 ·have h1:=hfit.1
  have n0:0≤g.wires∧g.wires≤100:=by simpa [inB] using h1
  have n2:¬ (60:Int)<g.edges.length:=by omega
  have n3:¬ (12:Int)<g.ins.length:=by omega
  have n4:¬ (12:Int)<g.outs.length:=by omega
  obtain ⟨n,hn⟩:∃ n:Nat,g.wires=n:=⟨g.wires.toNat,by omega⟩
  have HF:=Lib.hid (And.intro h1 True.intro)
  have HFIT:=Lib.hid hfit
  have HN:=Lib.hid (And.intro hn n0)
  clear h1 hfit hn n0
  go_enter Tryz.func189,Tryz.ntmps189
  go_wp2_with (go_at_call 128;refine (within_any _ _ _ _).mono ?_;rintro r w2 ⟨rfl,rfl⟩;rw [HF.out.1])
  have kG:=Bk.new w 53 #[.int .i64 g.wires,.slice ae g.edges.length ce,.slice ai g.ins.length ci,.slice ao g.outs.length co]
  generalize (w.alloc (.cells #[.int .i64 g.wires,.slice ae g.edges.length ce,.slice ai g.ins.length ci,.slice ao g.outs.length co] 53))=u0 at *
  clear n2 n3 n4
  obtain ⟨pe,cpe,he,hce,hat⟩:=hR.ed
  simp only [Value.slice.injEq] at he
  obtain ⟨rfl,-,rfl⟩:=he
  go_loopw [33] (fun i wr=>∃ k:Nat,k≤g.edges.length∧i=.int .i64 k∧Below u0.heap.size u0 wr∧∀ j,∀ h:j<g.edges.length,j<k → edB (g.edges[j]'h)=true) (fun i _=>g.edges.length - (intOf i).toNat)
  case atStart=>exact ⟨0,Nat.zero_le _,rfl,Below.refl _ _,fun j h1 h2=>by omega⟩
  case round =>
   obtain ⟨k,hk,rfl,hbr,hall⟩:=hrel
   have HALL:=Lib.hid hall
   clear hall
   by_cases hlt:k<g.edges.length
   ·obtain ⟨b,o,rfl,_,hnd⟩:=hat k hlt
    have hbw:=hA.trans (hbr.mono hA.size)
    obtain ⟨c0,c1,x1,x2,c2,c3,hi,ho⟩:=hnd.keep hbw
    obtain ⟨a1,q1,rfl⟩:=hi.slice
    obtain ⟨a2,q2,rfl⟩:=ho.slice
    have bz:=cell_lt c0
    have hB2:=alloc_below wr (.cells #[.int .i64 g.edges[k].kind,.int .i64 g.edges[k].value,.slice a1 g.edges[k].ins.length q1,.slice a2 g.edges[k].outs.length q2] 189)
    have hE:=isEdge_any g.edges[k] _ _ _ (hi.keep hB2) (ho.keep hB2)
    cases hed:edB g.edges[k] with
    | false =>
     have hG:=grB_ed hlt hed
     have HG:=Lib.hid hG
     rw [hed] at hE
     have HE:=Lib.hid hE
     clear hE hed hG hat hnd
     go_wp2_with (go_at_call 254;refine HE.out.mono ?_;rintro r w3 ⟨rfl,hb3⟩)
     go_ret
     exact ⟨by rw [HG.out];rfl,hbw.trans ((hB2.trans (hb3.mono hB2.size)).mono hbw.size)⟩
    | true =>
     have HED:=Lib.hid hed
     rw [hed] at hE
     have HE:=Lib.hid hE
     clear hE hed hat hnd
     go_wp2_with (go_at_call 254;refine HE.out.mono ?_;rintro r w3 ⟨rfl,hb3⟩)
     go_roundw
     case rel=>exact ⟨k+1,by omega,by go_num,hbr.trans ((hB2.trans (hb3.mono hB2.size)).mono hbr.size),fun j h1 h2=>by
      rcases Nat.lt_or_ge j k with h|h
      ·exact HALL.out j h1 h
      ·obtain rfl:j=k:=by omega
       exact HED.out⟩
     case measure=>simp [intOf];omega
   ·obtain rfl:k=g.edges.length:=by omega
    replace kG:=kG.keep hbr
    obtain ⟨iG,-,zG⟩:=kG.cell
    have hbw:=hA.trans (hbr.mono hA.size)
    clear hat hA hbr
    replace HALL:∀ e ∈ g.edges,edB e=true:=fun e he=>by
     obtain ⟨j,hj,rfl⟩:=List.mem_iff_getElem.1 he
     exact HALL.out j hj hj
    have hrest:=grB_rest HFIT.out HALL
    have hall:((cntL n g.places:Int) == (n:Int))=allG g:=by
     have h1:=cntL_all n g.places
     unfold allG
     rw [show g.wires.toNat=n by have:=HN.out.1;omega,← h1]
     by_cases hh:(cntL n g.places:Int)=n
     ·simp [hh]
     ·simp [hh]
    rw [HN.out.1] at hrest
    have HR:=Lib.hid (And.intro hrest hall)
    clear HALL hrest hall iG zG
    have kG':Bk wr w.heap.size 53 #[.int .i64 (n:Int),.slice ae g.edges.length ce,.slice ai g.ins.length ci,.slice ao g.outs.length co]:=by rw [← HN.out.1];exact kG
    clear kG
    obtain ⟨iG,-,zG⟩:=kG'.cell
    have hgw:w.heap.size<wr.heap.size:=zG
    have hn100:n≤100:=by have:=HN.out;omega
    obtain ⟨i0,hi,hz0,hz1,hz2⟩:=info_parts infoBool
    go_wp2_with (at_make;refine wpList_make_full _ rfl _ _ _ rfl w.heap.size 4 i0 _ 1 Tryz.underlying307 hi hz0 hz1 _ _ _ _ n rfl rfl rfl rfl (by rw [hz2];omega) (by unfold maxLen;omega) (by omega) ?_;intro x1 hown hgr;have hbx:Below wr.heap.size wr x1:=(Below.refl _ _).grown hgr (Nat.le_refl _) (by simp);replace kG':=kG'.keep hbx;clear iG zG;obtain ⟨iG,-,zG⟩:=kG'.cell;have zG1:w.heap.size<x1.heap.size+1:=(by omega);have zG2:w.heap.size<x1.heap.size+1+1:=(by omega);have zn0:¬ w.heap.size=x1.heap.size:=(by omega);have zn1:¬ w.heap.size=x1.heap.size+1:=(by omega);have zn2:¬ w.heap.size=x1.heap.size+1+1:=(by omega))
    have hsg:wr.heap.size<x1.heap.size:=(hown.lt wr.heap.size rfl).2
    have hzm:=made_flat (f:=bCell) false n (sz:=1) (by omega) rfl
    have hrow:x1.ownsRow w.heap.size 4 1 (.slice (some ⟨wr.heap.size,0,none⟩) n n) n ((seenL n []).flatMap bCell):=by rw [seenL_nil,← hzm];exact hown
    have hcn:cntL n []=0:=by unfold cntL;rw [seenL_nil];simp [List.count_replicate]
    have hB1:Below w.heap.size w (((x1.alloc (.cells #[.slice (some ⟨wr.heap.size,0,none⟩) n n] 307)).alloc (.cells #[.bool true] 4)).alloc (.cells #[.int .i64 0] 3)):=(((hbw.trans (hbx.mono hbw.size)).alloc (by have:=hbw.size;omega) _).alloc (by have:=hbw.size;simp;omega) _).alloc (by have:=hbw.size;simp;omega) _
    have kS:=((Bk.new x1 307 #[.slice (some ⟨wr.heap.size,0,none⟩) n n]).alloc (.cells #[.bool true] 4)).alloc (.cells #[.int .i64 0] 3)
    have kK:=(Bk.new (x1.alloc (.cells #[.slice (some ⟨wr.heap.size,0,none⟩) n n] 307)) 4 #[.bool true]).alloc (.cells #[.int .i64 0] 3)
    have kC:=Bk.new ((x1.alloc (.cells #[.slice (some ⟨wr.heap.size,0,none⟩) n n] 307)).alloc (.cells #[.bool true] 4)) 3 #[.int .i64 0]
    have kG3:=((kG'.alloc (.cells #[.slice (some ⟨wr.heap.size,0,none⟩) n n] 307)).alloc (.cells #[.bool true] 4)).alloc (.cells #[.int .i64 0] 3)
    have hrow3:=owns_keep (alloc_below _ (.cells #[.int .i64 0] 3)) (owns_keep (alloc_below _ (.cells #[.bool true] 4)) (owns_keep (alloc_below x1 (.cells #[.slice (some ⟨wr.heap.size,0,none⟩) n n] 307)) hrow))
    simp only [World.size_alloc] at kK kC
    generalize (((x1.alloc (.cells #[.slice (some ⟨wr.heap.size,0,none⟩) n n] 307)).alloc (.cells #[.bool true] 4)).alloc (.cells #[.int .i64 0] 3))=x2 at *
    have hst:SnSt w x2 w.heap.size (x1.heap.size+1) x1.heap.size (x1.heap.size+1+1) wr.heap.size n []:=by
     refine ⟨hB1,⟨by omega,by omega,by omega⟩,⟨by omega,by omega,by omega⟩,⟨by omega,by omega,by omega⟩,⟨by omega,by omega,by omega⟩,kG3.cell.1 0,kK,kS.cell.1 0,hrow3,?_⟩
     rw [hcn];exact kC
    clear kS kK kC hrow3 hrow hown hgr hzm hcn hbx
    refine (lists_any _ _ _ _ g w _ _ _ _ _ _ n hR hok hn100 hst).mono ?_
    rintro r x3 ⟨rfl,hs3⟩
    clear hst kG' kG3 iG zG zG1 zG2 zn0 zn1 zn2 hsg
    obtain ⟨iK,-,zK⟩:=hs3.good.cell
    obtain ⟨iC,-,zC⟩:=hs3.cnt.cell
    have cg:=hs3.g
    have zg:=cell_lt cg
    have hb3:=hs3.bel
    have hR2:=HR.out.2
    cases hgd:inG (n:Int) g.places with
    | false =>
     rw [hgd] at iK
     have HX:=Lib.hid hgd
     clear hgd hs3 hR2
     go_wp2
     go_ret
     exact ⟨by rw [HR.out.1,HX.out];rfl,hb3⟩
    | true =>
     rw [hgd] at iK
     have HX:=Lib.hid hgd
     clear hgd hs3
     go_wp2
     go_ret
     exact ⟨by rw [HR.out.1,HX.out,Bool.true_and,← HR.out.2];rfl,hb3⟩
 ·have hG:=grB_fit hfit
  have HG:=Lib.hid hG
  cases h1:inB g.wires 0 100 with
  | false =>
   have HF:=Lib.hid (And.intro h1 True.intro)
   clear h1 hfit hG
   go_enter Tryz.func189,Tryz.ntmps189
   go_wp2_with (go_at_call 128;refine (within_any _ _ _ _).mono ?_;rintro r w2 ⟨rfl,rfl⟩;rw [HF.out.1])
   go_ret
   exact ⟨by rw [HG.out];rfl,hA⟩
  | true =>
   have HF:=Lib.hid (And.intro h1 True.intro)
   by_cases h2:g.edges.length≤60
   ·have n2:¬ (60:Int)<g.edges.length:=by omega
    by_cases h3:g.ins.length≤12
    ·have n3:¬ (12:Int)<g.ins.length:=by omega
     have n4:(12:Int)<g.outs.length:=by
      rcases Nat.lt_or_ge 12 g.outs.length with h|h
      ·omega
      ·exact absurd ⟨h1,h2,h3,h⟩ hfit
     clear h1 hfit hG h2 h3
     go_enter Tryz.func189,Tryz.ntmps189
     go_wp2_with (go_at_call 128;refine (within_any _ _ _ _).mono ?_;rintro r w2 ⟨rfl,rfl⟩;rw [HF.out.1])
     go_ret
     exact ⟨by rw [HG.out];rfl,hA⟩
    ·have n3:(12:Int)<g.ins.length:=by omega
     clear h1 hfit hG h2 h3
     go_enter Tryz.func189,Tryz.ntmps189
     go_wp2_with (go_at_call 128;refine (within_any _ _ _ _).mono ?_;rintro r w2 ⟨rfl,rfl⟩;rw [HF.out.1])
     go_ret
     exact ⟨by rw [HG.out];rfl,hA⟩
   ·have n2:(60:Int)<g.edges.length:=by omega
    clear h1 hfit hG h2
    go_enter Tryz.func189,Tryz.ntmps189
    go_wp2_with (go_at_call 128;refine (within_any _ _ _ _).mono ?_;rintro r w2 ⟨rfl,rfl⟩;rw [HF.out.1])
    go_ret
    exact ⟨by rw [HG.out];rfl,hA⟩
end Go.Proofs.YtbljmfcifljkaaaGreatDoor
