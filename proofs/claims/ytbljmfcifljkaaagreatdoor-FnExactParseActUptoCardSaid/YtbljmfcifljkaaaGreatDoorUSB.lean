/-
  Valid graphs, the program's tests. Own work.
-/
import Derived.Test.YtbljmfcifljkaaaGreatDoorUSA
import Derived.Test.YtbljmfcifljkaaaGreatDoorUD
import Derived.Test.YtbljmfcifljkaaaGreatDoorUB
import Derived.Test.YtbljmfcifljkaaaGreatDoorUF
import Derived.Test.YtbljmfcifljkaaaGreatDoorUAI
import Derived.Test.YtbljmfcifljkaaaGreatDoorUFL
import Derived.Test.YtbljmfcifljkaaaGreatDoorUTM
set_option linter.all false
set_option maxRecDepth 100000
set_option maxHeartbeats 8000000
namespace Go.Proofs.YtbljmfcifljkaaaGreatDoor
open Go.RowKit
set_option maxRecDepth 100000
set_option maxHeartbeats 4000000
theorem isEdge_any (e:EdI) (vi vo:Value) (w:World) (hi:IntsAt w vi e.ins) (ho:IntsAt w vo e.outs) :
  Calls Tryz.prog 254 #[.agg #[.int .i64 e.kind,.int .i64 e.value,vi,vo]] w (FlP (edB e) w):=by
 obtain ⟨a1,q1,rfl⟩:=hi.slice
 obtain ⟨a2,q2,rfl⟩:=ho.slice
 have hA:=alloc_below w (.cells #[.int .i64 e.kind,.int .i64 e.value,.slice a1 e.ins.length q1,.slice a2 e.outs.length q2] 189)
 cases hk:inB e.kind 3 14 with
 | false =>
  have HK:=Lib.hid hk
  clear hk
  go_enter Tryz.func254,Tryz.ntmps254
  go_wp2_with (go_at_call 242;refine (isGenerator_any _ _).mono ?_;rintro r w2 ⟨rfl,rfl⟩;rw [HK.out])
  go_ret
  exact ⟨by unfold edB;rw [HK.out];rfl,hA⟩
 | true =>
  cases hv:genValB e.kind e.value with
  | false =>
   have HK:=Lib.hid (And.intro hk hv)
   clear hk hv
   go_enter Tryz.func254,Tryz.ntmps254
   go_wp2_with (first|(go_at_call 242;refine (isGenerator_any _ _).mono ?_;rintro r w2 ⟨rfl,rfl⟩;rw [HK.out.1])|(go_at_call 244;refine (isGeneratorValue_any _ _ _).mono ?_;rintro r w2 ⟨rfl,rfl⟩;rw [HK.out.2]))
   go_ret
   exact ⟨by unfold edB;rw [HK.out.1,HK.out.2];rfl,hA⟩
  | true =>
   have hk2:3≤e.kind∧e.kind≤14:=by simpa [inB] using hk
   have hcs:∃ b:Bool,decide (kindW e.kind=((e.ins.length:Int),(e.outs.length:Int)))=b:=⟨_,rfl⟩
   obtain ⟨b,hb⟩:=hcs
   have hif:(if (kindW e.kind).1=(e.ins.length:Int) then (if (kindW e.kind).2=(e.outs.length:Int) then true else false) else false)=b:=by
    rw [← hb]
    by_cases h1:(kindW e.kind).1=(e.ins.length:Int)
    ·by_cases h2:(kindW e.kind).2=(e.outs.length:Int)
     ·rw [if_pos h1,if_pos h2];symm;simp [Prod.ext_iff,h1,h2]
     ·rw [if_pos h1,if_neg h2];symm;simp [Prod.ext_iff,h2]
    ·rw [if_neg h1];symm;simp [Prod.ext_iff,h1]
   have HK:=Lib.hid (And.intro hk (And.intro hv hb))
   have HK2:=Lib.hid hk2
   clear hk hv hk2 hb
   by_cases h1:(kindW e.kind).1=(e.ins.length:Int)
   all_goals by_cases h2:(kindW e.kind).2=(e.outs.length:Int)
   all_goals
    simp only [h1,h2,if_true,if_false] at hif
    have HIF:=Lib.hid hif
    clear hif
    go_enter Tryz.func254,Tryz.ntmps254
    go_wp2_with (first|(go_at_call 242;refine (isGenerator_any _ _).mono ?_;rintro r w2 ⟨rfl,rfl⟩;rw [HK.out.1])|(go_at_call 244;refine (isGeneratorValue_any _ _ _).mono ?_;rintro r w2 ⟨rfl,rfl⟩;rw [HK.out.2.1]))
    have kE:=Bk.new w 189 #[.int .i64 e.kind,.int .i64 e.value,.slice a1 e.ins.length q1,.slice a2 e.outs.length q2]
    generalize (w.alloc (.cells #[.int .i64 e.kind,.int .i64 e.value,.slice a1 e.ins.length q1,.slice a2 e.outs.length q2] 189))=u0 at *
    obtain ⟨iE,fE,zE⟩:=kE.cell
    have c0:=iE 0
    have c2:=iE 2
    have c3:=iE 3
    simp at c0 c2 c3
    clear iE fE
    refine region_acts (C:=Exc (NoT) _) 4 [0,1,2,3,4,5,6,7,8,9,10,11] (by kernel_rfl) (by kernel_rfl) (Exc.grows _ _) (Exc.refl _ _) ?_
    iterate 2 (apply x_st rfl rfl rfl;(focus intro u hc' hf';go_simp <;> rfl);intro K hK;go_simp;apply hK;clear hK K)
    refine x_call rfl rfl rfl (Exc.grows _ _) (Exc.refl _ _) 243 (fun K hK=>?_);apply Exists.intro;refine ⟨fun w' hw'=>?_,fun wa hwa hbwa=>?_⟩;(focus go_simp;rfl);refine (generatorWires_any _ _ HK2.out.1 HK2.out.2).mono ?_;rintro e w3 ⟨rfl,hb3⟩;refine ⟨_,rfl,hb3,fun hx=>?_⟩;go_simp;apply hK;clear hK K
    iterate 9 (apply x_st rfl rfl rfl;(focus intro u hc' hf';go_simp <;> rfl);intro K hK;go_simp;apply hK;clear hK K)
    refine x_nil ?_
    go_wp2
    go_ret
    exact ⟨by unfold edB;rw [HK.out.1,HK.out.2.1,HK.out.2.2,← HIF.out];rfl,hA.drew.trans (hx.toBelow.mono (by simp;omega))⟩
end Go.Proofs.YtbljmfcifljkaaaGreatDoor
/-
  Valid graphs: the program's isGraph and what it calls. Own work.
-/
namespace Go.Proofs.YtbljmfcifljkaaaGreatDoor
open Go.RowKit
set_option maxRecDepth 100000
set_option maxHeartbeats 4000000
def bCell (b:Bool):List Value:=[.bool b]
theorem bCell_len (b:Bool):(bCell b).length=1:=rfl
def seenL (n:Nat) (vis:List Int):List Bool:=(List.range n).map fun i:Nat=>vis.contains (i:Int)
theorem seenL_len (n:Nat) (vis:List Int):(seenL n vis).length=n:=by simp [seenL]
theorem seenL_get (n:Nat) (vis:List Int) (i:Nat) (h:i<(seenL n vis).length):(seenL n vis)[i]=vis.contains (i:Int):=by simp [seenL]
theorem seenL_nil (n:Nat):seenL n []=List.replicate n false:=by
 apply List.ext_getElem
 ·simp [seenL]
 ·intro i h1 h2;simp [seenL]
theorem seenL_out (n:Nat) (vis:List Int) (z:Int) (hz:¬ (0≤z∧z<n)):seenL n (vis ++ [z])=seenL n vis:=by
 unfold seenL
 apply List.map_congr_left
 intro i hi
 have hi':i<n:=List.mem_range.1 hi
 have:¬ (i:Int)=z:=fun e=>hz ⟨by omega,by omega⟩
 rw [Bool.eq_iff_iff];simp [this]
theorem seenL_in (n:Nat) (vis:List Int) (k:Nat) (hk:k<n):seenL n (vis ++ [(k:Int)])=(seenL n vis).set k true:=by
 apply List.ext_getElem
 ·simp [seenL]
 ·intro i h1 h2
  rw [List.getElem_set]
  simp only [seenL,List.getElem_map,List.getElem_range]
  by_cases e:k=i
  ·subst e;simp
  ·rw [if_neg e]
   have:¬ (i:Int)=(k:Int):=fun h=>e (by omega)
   rw [Bool.eq_iff_iff];simp [this]
def cntL (n:Nat) (vis:List Int):Nat:=(seenL n vis).count true
theorem count_set (l:List Bool) (k:Nat) (hk:k<l.length):(l.set k true).count true=l.count true+if l[k]=true then 0 else 1:=by
 induction l generalizing k with
 | nil=>simp at hk
 | cons b l ih =>
  cases k with
  | zero=>cases b <;> simp
  | succ k =>
   have:=ih k (by simpa using hk)
   rw [List.set_cons_succ,List.count_cons,List.count_cons,this,List.getElem_cons_succ]
   omega
theorem cntL_le (n:Nat) (vis:List Int):cntL n vis≤n:=by
 have:=List.count_le_length (a:=true) (l:=seenL n vis)
 rw [seenL_len] at this
 exact this
theorem count_full:∀ (l:List Bool),l.count true=l.length ↔ ∀ b ∈ l,b=true
 | []=>by simp
 | b :: l=>by
  have h1:=count_full l
  have h2:=List.count_le_length (a:=true) (l:=l)
  cases b
  ·simp;omega
  ·simp only [List.count_cons_self,List.length_cons,List.mem_cons,forall_eq_or_imp,true_and]
   rw [← h1];omega
theorem cntL_all (n:Nat) (vis:List Int):decide ((cntL n vis:Int)=n)=(List.range n).all fun w:Nat=>vis.contains (w:Int):=by
 rw [Bool.eq_iff_iff,decide_eq_true_eq,List.all_eq_true]
 have:=count_full (seenL n vis)
 rw [seenL_len] at this
 constructor
 ·intro h x hx
  exact this.1 (by unfold cntL at h;omega) _ (by unfold seenL;exact List.mem_map_of_mem hx)
 ·intro h
  have h2:=this.2 (fun b hb=>by
   obtain ⟨x,hx,rfl⟩:=List.mem_map.1 hb
   exact h x hx)
  unfold cntL
  omega
theorem inG_snoc (n:Int) (l:List Int) (z:Int):inG n (l ++ [z])=(inG n l && inB z 0 (n - 1)):=by simp [inG]
structure SnSt (w0 w:World) (gb kb sb cb sg:Nat) (n:Nat) (vis:List Int):Prop where
 bel:Below w0.heap.size w0 w
 lo:w0.heap.size≤kb∧w0.heap.size≤cb∧w0.heap.size≤sg
 ne:kb ≠ cb∧kb ≠ sg∧cb ≠ sg
 gne:gb ≠ kb∧gb ≠ cb∧gb ≠ sg
 sne:sb ≠ kb∧sb ≠ cb∧sb ≠ sg
 g:w.cell? ⟨gb,0,none⟩=some (.int .i64 (n:Int))
 good:Bk w kb 4 #[.bool (inG n vis)]
 seen:w.cell? ⟨sb,0,none⟩=some (.slice (some ⟨sg,0,none⟩) n n)
 row:w.ownsRow w0.heap.size 4 1 (.slice (some ⟨sg,0,none⟩) n n) n ((seenL n vis).flatMap bCell)
 cnt:Bk w cb 3 #[.int .i64 (cntL n vis:Int)]
theorem SnSt.keep {w0 w w':World} {gb kb sb cb sg n:Nat} {vis:List Int} (h:SnSt w0 w gb kb sb cb sg n vis) (hb:Below w.heap.size w w'):SnSt w0 w' gb kb sb cb sg n vis :=
 ⟨h.bel.trans (hb.mono h.bel.size),h.lo,h.ne,h.gne,h.sne,cell_keep hb h.g,h.good.keep hb,cell_keep hb h.seen,owns_keep hb h.row,h.cnt.keep hb⟩
theorem SnSt.out {w0 w:World} {gb kb sb cb sg n:Nat} {vis:List Int} (h:SnSt w0 w gb kb sb cb sg n vis) (z:Int) (hz:inB z 0 ((n:Int) - 1)=false):SnSt w0 (w.setCell ⟨kb,0,none⟩ (.bool false)) gb kb sb cb sg n (vis ++ [z]):=by
 have hz2:¬ (0≤z∧z<n):=by intro ⟨h1,h2⟩;simp [inB] at hz;omega
 obtain ⟨h1,h2,h3,h4,h5,h6,h7,h8,h9,h10⟩:=h
 refine ⟨h1.setCell h2.1 _,h2,h3,h4,h5,?_,?_,?_,?_,?_⟩
 ·rw [World.cell?_setCell_other _ ⟨kb,0,none⟩ ⟨gb,0,none⟩ _ (by simp <;> omega)];exact h6
 ·rw [inG_snoc,hz,Bool.and_false];exact h7.set 0 _
 ·rw [World.cell?_setCell_other _ ⟨kb,0,none⟩ ⟨sb,0,none⟩ _ (by simp <;> omega)];exact h8
 ·rw [seenL_out n vis z hz2];exact owns_other h9 _ _ (by simp [Value.ownBlock];exact fun e=>h3.2.1 e.symm)
 ·unfold cntL;rw [seenL_out n vis z hz2];exact h10.other _ _ (fun e=>h3.1 e.symm)
theorem SnSt.again {w0 w:World} {gb kb sb cb sg n:Nat} {vis:List Int} (h:SnSt w0 w gb kb sb cb sg n vis) (k:Nat) (hk:k<n) (hs:vis.contains (k:Int)=true):SnSt w0 w gb kb sb cb sg n (vis ++ [(k:Int)]):=by
 have hin:inB (k:Int) 0 ((n:Int) - 1)=true:=by simp [inB];omega
 have hsee:seenL n (vis ++ [(k:Int)])=seenL n vis:=by
  rw [seenL_in n vis k hk]
  apply List.ext_getElem
  ·simp
  ·intro i h1 h2
   rw [List.getElem_set]
   split
   ·rename_i e;subst e;rw [seenL_get];exact hs.symm
   ·rfl
 obtain ⟨h1,h2,h3,h4,h5,h6,h7,h8,h9,h10⟩:=h
 refine ⟨h1,h2,h3,h4,h5,h6,?_,h8,?_,?_⟩
 ·rw [inG_snoc,hin,Bool.and_true];exact h7
 ·rw [hsee];exact h9
 ·unfold cntL;rw [hsee];exact h10
theorem SnSt.new {w0 w:World} {gb kb sb cb sg n:Nat} {vis:List Int} (h:SnSt w0 w gb kb sb cb sg n vis) (k:Nat) (hk:k<n) (hs:vis.contains (k:Int)=false) :
  SnSt w0 ((w.setCell ⟨sg,k,none⟩ (.bool true)).setCell ⟨cb,0,none⟩ (.int .i64 ((cntL n vis:Int)+1))) gb kb sb cb sg n (vis ++ [(k:Int)]):=by
 have hin:inB (k:Int) 0 ((n:Int) - 1)=true:=by simp [inB];omega
 have hc:cntL n (vis ++ [(k:Int)])=cntL n vis+1:=by
  unfold cntL
  rw [seenL_in n vis k hk,count_set _ k (by rw [seenL_len];exact hk),seenL_get,hs]
  simp
 obtain ⟨h1,h2,h3,h4,h5,h6,h7,h8,h9,h10⟩:=h
 refine ⟨(h1.setCell h2.2.2 _).setCell h2.2.1 _,h2,h3,h4,h5,?_,?_,?_,?_,?_⟩
 ·rw [World.cell?_setCell_other _ ⟨cb,0,none⟩ ⟨gb,0,none⟩ _ (by simp <;> omega),World.cell?_setCell_other _ ⟨sg,k,none⟩ ⟨gb,0,none⟩ _ (by simp <;> omega)];exact h6
 ·rw [inG_snoc,hin,Bool.and_true];exact (h7.other _ _ h3.2.1).other _ _ h3.1
 ·rw [World.cell?_setCell_other _ ⟨cb,0,none⟩ ⟨sb,0,none⟩ _ (by simp <;> omega),World.cell?_setCell_other _ ⟨sg,k,none⟩ ⟨sb,0,none⟩ _ (by simp <;> omega)];exact h8
 ·rw [seenL_in n vis k hk]
  refine owns_other ?_ _ _ (by simp [Value.ownBlock];exact fun e=>h3.2.2 e.symm)
  exact owns_set bCell_len h9 k 0 k (by rw [seenL_len];exact hk) (by omega) (by omega) (.bool true) true rfl
 ·rw [hc]
  have:=(h10.other ⟨sg,k,none⟩ (.bool true) h3.2.2).set 0 (.int .i64 ((cntL n vis:Int)+1))
  exact this
def TSn (kb sg cb:Nat):Nat → Prop:=fun j=>j=kb∨j=sg∨j=cb
theorem visit_any (v:Value) (zs:List Int) (w0 w:World) (gb kb sb cb sg n:Nat) (vis:List Int) (hv:IntsAt w0 v zs) (hn:n≤100) (hz:zs.length≤1048576) (h:SnSt w0 w gb kb sb cb sg n vis) :
  Calls Tryz.prog 256 #[v,.pointer (some ⟨gb,0,none⟩),.pointer (some ⟨kb,0,none⟩),.pointer (some ⟨sb,0,none⟩),.pointer (some ⟨cb,0,none⟩)] w fun e w'=>e=.returned (.tuple #[])∧SnSt w0 w' gb kb sb cb sg n (vis ++ zs)∧Exc (TSn kb sg cb) w w':=by
 obtain ⟨a,cap,rfl,hc,hat⟩:=hv
 go_enter Tryz.func256,Tryz.ntmps256
 go_wp2
 go_loopw [10] (fun i wr=>∃ k:Nat,k≤zs.length∧i=.int .i64 k∧SnSt w0 wr gb kb sb cb sg n (vis ++ zs.take k)∧Exc (TSn kb sg cb) w wr) (fun i _=>zs.length - (intOf i).toNat)
 case atStart=>exact ⟨0,Nat.zero_le _,rfl,by simpa using h,Exc.refl _ _⟩
 case round =>
  obtain ⟨k,hk,rfl,hst,hex⟩:=hrel
  clear h
  by_cases hlt:k<zs.length
  ·obtain ⟨b,o,rfl,_,c0⟩:=hat k hlt
   rw [Nat.mul_one] at c0
   replace c0:=cell_keep hst.bel c0
   obtain ⟨z,hzz⟩:∃ z,zs[k]=z:=⟨_,rfl⟩
   have hT1:vis ++ zs.take (k+1)=(vis ++ zs.take k) ++ [z]:=by rw [List.take_succ_eq_append_getElem hlt,hzz,List.append_assoc]
   rw [hzz] at c0
   have HT:=Lib.hid hT1
   obtain ⟨iK,fK,zK⟩:=hst.good.cell
   obtain ⟨iC,fC,zC⟩:=hst.cnt.cell
   have cg:=hst.g
   have zg:=cell_lt cg
   have cs:=hst.seen
   have zs':=cell_lt cs
   have bz:=cell_lt c0
   have k0:=iK 0
   have d0:=iC 0
   simp at k0 d0
   clear hat hzz hT1 iK iC
   have w1:IntKind.i64.wrap ((n:Int) - 1)=(n:Int) - 1:=IntWalk.i64_in _ (by omega)
   cases hin:inB z 0 ((n:Int) - 1) with
   | false =>
    have HIN:=Lib.hid hin
    have hst2:=hst.out z hin
    clear hin
    go_wp2_with (go_at_call 128;refine (within_any _ _ _ _).mono ?_;rintro r w2 ⟨rfl,rfl⟩;rw [HIN.out])
    go_roundw
    case rel=>exact ⟨k+1,by omega,by go_num,by rw [HT.out];exact hst2,exc_set hex (.inr (.inl rfl)) _⟩
    case measure=>simp [intOf];omega
   | true =>
    have hz2:0≤z∧z<n:=by simp [inB] at hin;omega
    obtain ⟨m,rfl⟩:∃ m:Nat,z=m:=⟨z.toNat,by omega⟩
    have hmn:m<n:=by omega
    have HIN:=Lib.hid hin
    clear hin hz2
    have hrow:=hst.row
    have s0:=owns_cell bCell_len hrow m 0 (by rw [seenL_len];exact hmn) (by omega)
    rw [seenL_get] at s0
    have f0:=hrow.frozenAt m
    simp only [bCell,Nat.mul_one,Nat.add_zero,List.getElem?_cons_zero] at s0
    have zg2:=cell_lt s0
    have hcl:=cntL_le n (vis ++ zs.take k)
    have w2:IntKind.i64.wrap ((cntL n (vis ++ zs.take k):Int)+1)=(cntL n (vis ++ zs.take k):Int)+1:=IntWalk.i64_in _ (by omega)
    cases hs:(vis ++ zs.take k).contains (m:Int) with
    | true =>
     rw [hs] at s0
     have hst2:=hst.again m hmn hs
     clear hs hrow
     go_wp2_with (go_at_call 128;refine (within_any _ _ _ _).mono ?_;rintro r w2 ⟨rfl,rfl⟩;rw [HIN.out])
     go_roundw
     case rel=>exact ⟨k+1,by omega,by go_num,by rw [HT.out];exact hst2,hex⟩
     case measure=>simp [intOf];omega
    | false =>
     rw [hs] at s0
     have hst2:=hst.new m hmn hs
     have hne:=hst.ne
     have hcs:¬ cb=sg:=hne.2.2
     have hsc:¬ sg=cb:=fun e=>hne.2.2 e.symm
     clear hs hrow hne
     go_wp2_with (go_at_call 128;refine (within_any _ _ _ _).mono ?_;rintro r w2 ⟨rfl,rfl⟩;rw [HIN.out])
     go_roundw
     case rel=>exact ⟨k+1,by omega,by go_num,by rw [HT.out];exact hst2,exc_set (exc_set hex (.inr (.inr (.inl rfl))) _) (.inr (.inr (.inr rfl))) _⟩
     case measure=>simp [intOf];omega
  ·obtain rfl:k=zs.length:=by omega
   rw [List.take_length] at hst
   go_wp2
   exact bodyPost_end (v:=.tuple #[]) (by simp [results,Tryz.results256,go_sem]) rfl ⟨rfl,hst,hex⟩
end Go.Proofs.YtbljmfcifljkaaaGreatDoor
/-
  Valid graphs: the program's lists and isGraph. Own work.
-/
namespace Go.Proofs.YtbljmfcifljkaaaGreatDoor
open Go.RowKit
set_option maxRecDepth 100000
set_option maxHeartbeats 4000000
theorem SnSt.notT {w0 w:World} {gb kb sb cb sg n:Nat} {vis:List Int} (h:SnSt w0 w gb kb sb cb sg n vis) (b:Nat) (hb:w.heap.size≤b):¬ TSn kb sg cb b:=by
 have h1:=h.good.lt
 have h2:=h.cnt.lt
 have h3:=(World.ownsRow.lt h.row sg (by simp [Value.ownBlock])).2
 rintro (rfl|rfl|rfl) <;> omega
theorem lists_any (z:Int) (ve vi vo:Value) (g:GrI) (w0 w:World) (gb kb sb cb sg n:Nat) (hR:GrR w0 ve vi vo g) (hok:GrOk g) (hn:n≤100) (h:SnSt w0 w gb kb sb cb sg n []) :
  Calls Tryz.prog 255 #[.agg #[.int .i64 z,ve,vi,vo],(.func (.func 256) #[] #[.pointer (some ⟨gb,0,none⟩),.pointer (some ⟨kb,0,none⟩),.pointer (some ⟨sb,0,none⟩),.pointer (some ⟨cb,0,none⟩)])] w fun e w'=>e=.returned (.tuple #[])∧SnSt w0 w' gb kb sb cb sg n g.places:=by
 obtain ⟨⟨ae,ce,rfl⟩,⟨ai,ci,rfl⟩,ao,co,rfl⟩:=hR.slices
 have hpl:g.places=(g.ins ++ g.outs) ++ g.edges.flatMap fun e=>e.ins ++ e.outs:=by unfold GrI.places;rw [List.append_assoc]
 have HPL:=Lib.hid hpl
 clear hpl
 go_enter Tryz.func255,Tryz.ntmps255
 go_wp2_with fail
 have kI:=Bk.new w 53 #[.int .i64 z,.slice ae g.edges.length ce,.slice ai g.ins.length ci,.slice ao g.outs.length co]
 have hnT:=h.notT w.heap.size (Nat.le_refl _)
 have hs0:=h.keep (alloc_below w (.cells #[.int .i64 z,.slice ae g.edges.length ce,.slice ai g.ins.length ci,.slice ao g.outs.length co] 53))
 clear h
 generalize (w.alloc (.cells #[.int .i64 z,.slice ae g.edges.length ce,.slice ai g.ins.length ci,.slice ao g.outs.length co] 53))=u0 at *
 refine (visit_any _ g.ins w0 _ gb kb sb cb sg n [] hR.inn hn hok.inn hs0).mono ?_
 rintro r u1 ⟨rfl,hs1,hx1⟩
 rw [List.nil_append] at hs1
 replace kI:=kI.exc hx1 hnT
 obtain ⟨iI,-,zI⟩:=kI.cell
 clear hx1 hs0
 go_wp2_with fail
 refine (visit_any _ g.outs w0 _ gb kb sb cb sg n g.ins hR.out hn hok.out hs1).mono ?_
 clear iI zI
 rintro r u2 ⟨rfl,hs2,hx2⟩
 replace kI:=kI.exc hx2 hnT
 obtain ⟨iI,-,zI⟩:=kI.cell
 clear hx2 hs1
 go_wp2_with fail
 clear iI zI kI hnT
 obtain ⟨pe,cpe,he,hce,hat⟩:=hR.ed
 simp only [Value.slice.injEq] at he
 obtain ⟨rfl,-,rfl⟩:=he
 have hel:=hok.ed
 go_loopw [17] (fun i wr=>∃ k:Nat,k≤g.edges.length∧i=.int .i64 k∧SnSt w0 wr gb kb sb cb sg n ((g.ins ++ g.outs) ++ (g.edges.take k).flatMap fun e=>e.ins ++ e.outs)) (fun i _=>g.edges.length - (intOf i).toNat)
 case atStart=>exact ⟨0,Nat.zero_le _,rfl,by simpa using hs2⟩
 case round =>
  clear hs2
  obtain ⟨k,hk,rfl,hst⟩:=hrel
  by_cases hlt:k<g.edges.length
  ·obtain ⟨b,o,rfl,_,hnd⟩:=hat k hlt
   obtain ⟨c0,c1,x1,x2,c2,c3,hi0,ho0⟩:=hnd.keep hst.bel
   obtain ⟨d0,d1,y1,y2,d2,d3,hi,ho⟩:=hnd
   obtain rfl:x1=y1:=by have:=cell_keep hst.bel d2;rw [c2] at this;exact Option.some.inj this
   obtain rfl:x2=y2:=by have:=cell_keep hst.bel d3;rw [c3] at this;exact Option.some.inj this
   obtain ⟨a1,q1,rfl⟩:=hi.slice
   obtain ⟨a2,q2,rfl⟩:=ho.slice
   have bz:=cell_lt c0
   have hok1:=hok.eds _ (List.getElem_mem hlt)
   have hT1:(g.edges.take (k+1)).flatMap (fun e=>e.ins ++ e.outs)=(g.edges.take k).flatMap (fun e=>e.ins ++ e.outs) ++ (g.edges[k].ins ++ g.edges[k].outs):=by
    rw [List.take_succ_eq_append_getElem hlt,List.flatMap_append];simp
   have HT:=Lib.hid hT1
   clear hT1 hat d0 d1 d2 d3 hi0 ho0
   go_wp2_with fail
   have kI:=Bk.new wr 189 #[.int .i64 g.edges[k].kind,.int .i64 g.edges[k].value,.slice a1 g.edges[k].ins.length q1,.slice a2 g.edges[k].outs.length q2]
   have hnT:=hst.notT wr.heap.size (Nat.le_refl _)
   have hs0:=hst.keep (alloc_below wr (.cells #[.int .i64 g.edges[k].kind,.int .i64 g.edges[k].value,.slice a1 g.edges[k].ins.length q1,.slice a2 g.edges[k].outs.length q2] 189))
   clear hst c0 c1 c2 c3 bz
   generalize (wr.alloc (.cells #[.int .i64 g.edges[k].kind,.int .i64 g.edges[k].value,.slice a1 g.edges[k].ins.length q1,.slice a2 g.edges[k].outs.length q2] 189))=u3 at *
   refine (visit_any _ g.edges[k].ins w0 _ gb kb sb cb sg n _ hi hn hok1.inn hs0).mono ?_
   rintro r u4 ⟨rfl,hs1,hx1⟩
   replace kI:=kI.exc hx1 hnT
   obtain ⟨iI,-,zI⟩:=kI.cell
   clear hx1 hs0
   go_wp2_with fail
   refine (visit_any _ g.edges[k].outs w0 _ gb kb sb cb sg n _ ho hn hok1.out hs1).mono ?_
   clear iI zI
   rintro r u5 ⟨rfl,hs2,hx2⟩
   clear hx2 hs1 kI
   go_wp2_with fail
   go_roundw
   case rel=>exact ⟨k+1,by omega,by go_num,by rw [HT.out];simpa [List.append_assoc] using hs2⟩
   case measure=>simp [intOf];omega
  ·obtain rfl:k=g.edges.length:=by omega
   rw [List.take_length,← HPL.out] at hst
   go_wp2
   exact bodyPost_end (v:=.tuple #[]) (by simp [results,Tryz.results255,go_sem]) rfl ⟨rfl,hst⟩
end Go.Proofs.YtbljmfcifljkaaaGreatDoor
/-
  Valid graphs: the program's isGraph. Own work.
-/
namespace Go.Proofs.YtbljmfcifljkaaaGreatDoor
open Go.RowKit
set_option maxRecDepth 100000
set_option maxHeartbeats 4000000
theorem infoBool:(Tryz.prog.info? 4).map (fun i=>(i.zero,i.size,i.bytes))=some (some (.bool false),1,1):=by kernel_rfl
theorem grB_fit {g:GrI} (h:¬ (inB g.wires 0 100=true∧g.edges.length≤60∧g.ins.length≤12∧g.outs.length≤12)):grB g=false:=by
 unfold grB gfitB
 rw [Bool.and_eq_false_imp]
 intro h2
 simp only [Bool.and_eq_true,decide_eq_true_eq] at h2
 exact absurd ⟨h2.1,h2.2.1,h2.2.2.1,h2.2.2.2⟩ h
theorem grB_ed {g:GrI} {k:Nat} (hk:k<g.edges.length) (h:edB g.edges[k]=false):grB g=false:=by
 unfold grB
 have:g.edges.all edB=false:=List.all_eq_false.2 ⟨_,List.getElem_mem hk,by simp [h]⟩
 rw [this];simp
theorem grB_rest {g:GrI} (h:inB g.wires 0 100=true∧g.edges.length≤60∧g.ins.length≤12∧g.outs.length≤12) (he:∀ e ∈ g.edges,edB e=true):grB g=(inG g.wires g.places && allG g):=by
 unfold grB gfitB
 rw [h.1,decide_eq_true h.2.1,decide_eq_true h.2.2.1,decide_eq_true h.2.2.2,List.all_eq_true.2 he]
 rfl
theorem edB_len {e:EdI} (h:edB e=true):e.ins.length≤2∧e.outs.length≤2:=by
 unfold edB at h
 simp only [Bool.and_eq_true,decide_eq_true_eq] at h
 have h2:(kindW e.kind).1≤2∧(kindW e.kind).2≤2:=by
  unfold kindW
  repeat' split
  all_goals simp
 rw [h.2.2] at h2
 simp only at h2
 omega
theorem isGraph_any (ve vi vo:Value) (g:GrI) (w:World) (hR:GrR w ve vi vo g) (hok:GrOk g) :
  Calls Tryz.prog 189 #[.agg #[.int .i64 g.wires,ve,vi,vo]] w (FlP (grB g) w):=by
 obtain ⟨⟨ae,ce,rfl⟩,⟨ai,ci,rfl⟩,ao,co,rfl⟩:=hR.slices
 have hA:=alloc_below w (.cells #[.int .i64 g.wires,.slice ae g.edges.length ce,.slice ai g.ins.length ci,.slice ao g.outs.length co] 53)
 by_cases hfit:inB g.wires 0 100=true∧g.edges.length≤60∧g.ins.length≤12∧g.outs.length≤12
 ·have h1:=hfit.1
  have n0:0≤g.wires∧g.wires≤100:=by simpa [inB] using h1
  have n2:¬ (60:Int)<g.edges.length:=by omega
  have n3:¬ (12:Int)<g.ins.length:=by omega
  have n4:¬ (12:Int)<g.outs.length:=by omega
  obtain ⟨n,hn⟩:∃ n:Nat,g.wires=n:=⟨g.wires.toNat,by omega⟩
  have HF:=Lib.hid (And.intro h1 True.intro)
  have HFIT:=Lib.hid hfit
  have HN:=Lib.hid (And.intro hn n0)
  clear h1 hfit hn n0
  go_enter Tryz.func189,Tryz.ntmps189
  go_wp2_with (go_at_call 128;refine (within_any _ _ _ _).mono ?_;rintro r w2 ⟨rfl,rfl⟩;rw [HF.out.1])
  have kG:=Bk.new w 53 #[.int .i64 g.wires,.slice ae g.edges.length ce,.slice ai g.ins.length ci,.slice ao g.outs.length co]
  generalize (w.alloc (.cells #[.int .i64 g.wires,.slice ae g.edges.length ce,.slice ai g.ins.length ci,.slice ao g.outs.length co] 53))=u0 at *
  clear n2 n3 n4
  obtain ⟨pe,cpe,he,hce,hat⟩:=hR.ed
  simp only [Value.slice.injEq] at he
  obtain ⟨rfl,-,rfl⟩:=he
  go_loopw [33] (fun i wr=>∃ k:Nat,k≤g.edges.length∧i=.int .i64 k∧Below u0.heap.size u0 wr∧∀ j,∀ h:j<g.edges.length,j<k → edB (g.edges[j]'h)=true) (fun i _=>g.edges.length - (intOf i).toNat)
  case atStart=>exact ⟨0,Nat.zero_le _,rfl,Below.refl _ _,fun j h1 h2=>by omega⟩
  case round =>
   obtain ⟨k,hk,rfl,hbr,hall⟩:=hrel
   have HALL:=Lib.hid hall
   clear hall
   by_cases hlt:k<g.edges.length
   ·obtain ⟨b,o,rfl,_,hnd⟩:=hat k hlt
    have hbw:=hA.trans (hbr.mono hA.size)
    obtain ⟨c0,c1,x1,x2,c2,c3,hi,ho⟩:=hnd.keep hbw
    obtain ⟨a1,q1,rfl⟩:=hi.slice
    obtain ⟨a2,q2,rfl⟩:=ho.slice
    have bz:=cell_lt c0
    have hB2:=alloc_below wr (.cells #[.int .i64 g.edges[k].kind,.int .i64 g.edges[k].value,.slice a1 g.edges[k].ins.length q1,.slice a2 g.edges[k].outs.length q2] 189)
    have hE:=isEdge_any g.edges[k] _ _ _ (hi.keep hB2) (ho.keep hB2)
    cases hed:edB g.edges[k] with
    | false =>
     have hG:=grB_ed hlt hed
     have HG:=Lib.hid hG
     rw [hed] at hE
     have HE:=Lib.hid hE
     clear hE hed hG hat hnd
     go_wp2_with (go_at_call 254;refine HE.out.mono ?_;rintro r w3 ⟨rfl,hb3⟩)
     go_ret
     exact ⟨by rw [HG.out];rfl,hbw.trans ((hB2.trans (hb3.mono hB2.size)).mono hbw.size)⟩
    | true =>
     have HED:=Lib.hid hed
     rw [hed] at hE
     have HE:=Lib.hid hE
     clear hE hed hat hnd
     go_wp2_with (go_at_call 254;refine HE.out.mono ?_;rintro r w3 ⟨rfl,hb3⟩)
     go_roundw
     case rel=>exact ⟨k+1,by omega,by go_num,hbr.trans ((hB2.trans (hb3.mono hB2.size)).mono hbr.size),fun j h1 h2=>by
      rcases Nat.lt_or_ge j k with h|h
      ·exact HALL.out j h1 h
      ·obtain rfl:j=k:=by omega
       exact HED.out⟩
     case measure=>simp [intOf];omega
   ·obtain rfl:k=g.edges.length:=by omega
    replace kG:=kG.keep hbr
    obtain ⟨iG,-,zG⟩:=kG.cell
    have hbw:=hA.trans (hbr.mono hA.size)
    clear hat hA hbr
    replace HALL:∀ e ∈ g.edges,edB e=true:=fun e he=>by
     obtain ⟨j,hj,rfl⟩:=List.mem_iff_getElem.1 he
     exact HALL.out j hj hj
    have hrest:=grB_rest HFIT.out HALL
    have hall:((cntL n g.places:Int) == (n:Int))=allG g:=by
     have h1:=cntL_all n g.places
     unfold allG
     rw [show g.wires.toNat=n by have:=HN.out.1;omega,← h1]
     by_cases hh:(cntL n g.places:Int)=n
     ·simp [hh]
     ·simp [hh]
    rw [HN.out.1] at hrest
    have HR:=Lib.hid (And.intro hrest hall)
    clear HALL hrest hall iG zG
    have kG':Bk wr w.heap.size 53 #[.int .i64 (n:Int),.slice ae g.edges.length ce,.slice ai g.ins.length ci,.slice ao g.outs.length co]:=by rw [← HN.out.1];exact kG
    clear kG
    obtain ⟨iG,-,zG⟩:=kG'.cell
    have hgw:w.heap.size<wr.heap.size:=zG
    have hn100:n≤100:=by have:=HN.out;omega
    obtain ⟨i0,hi,hz0,hz1,hz2⟩:=info_parts infoBool
    go_wp2_with (at_make;refine wpList_make_full _ rfl _ _ _ rfl w.heap.size 4 i0 _ 1 Tryz.underlying307 hi hz0 hz1 _ _ _ _ n rfl rfl rfl rfl (by rw [hz2];omega) (by unfold maxLen;omega) (by omega) ?_;intro x1 hown hgr;have hbx:Below wr.heap.size wr x1:=(Below.refl _ _).grown hgr (Nat.le_refl _) (by simp);replace kG':=kG'.keep hbx;clear iG zG;obtain ⟨iG,-,zG⟩:=kG'.cell;have zG1:w.heap.size<x1.heap.size+1:=(by omega);have zG2:w.heap.size<x1.heap.size+1+1:=(by omega);have zn0:¬ w.heap.size=x1.heap.size:=(by omega);have zn1:¬ w.heap.size=x1.heap.size+1:=(by omega);have zn2:¬ w.heap.size=x1.heap.size+1+1:=(by omega))
    have hsg:wr.heap.size<x1.heap.size:=(hown.lt wr.heap.size rfl).2
    have hzm:=made_flat (f:=bCell) false n (sz:=1) (by omega) rfl
    have hrow:x1.ownsRow w.heap.size 4 1 (.slice (some ⟨wr.heap.size,0,none⟩) n n) n ((seenL n []).flatMap bCell):=by rw [seenL_nil,← hzm];exact hown
    have hcn:cntL n []=0:=by unfold cntL;rw [seenL_nil];simp [List.count_replicate]
    have hB1:Below w.heap.size w (((x1.alloc (.cells #[.slice (some ⟨wr.heap.size,0,none⟩) n n] 307)).alloc (.cells #[.bool true] 4)).alloc (.cells #[.int .i64 0] 3)):=(((hbw.trans (hbx.mono hbw.size)).alloc (by have:=hbw.size;omega) _).alloc (by have:=hbw.size;simp;omega) _).alloc (by have:=hbw.size;simp;omega) _
    have kS:=((Bk.new x1 307 #[.slice (some ⟨wr.heap.size,0,none⟩) n n]).alloc (.cells #[.bool true] 4)).alloc (.cells #[.int .i64 0] 3)
    have kK:=(Bk.new (x1.alloc (.cells #[.slice (some ⟨wr.heap.size,0,none⟩) n n] 307)) 4 #[.bool true]).alloc (.cells #[.int .i64 0] 3)
    have kC:=Bk.new ((x1.alloc (.cells #[.slice (some ⟨wr.heap.size,0,none⟩) n n] 307)).alloc (.cells #[.bool true] 4)) 3 #[.int .i64 0]
    have kG3:=((kG'.alloc (.cells #[.slice (some ⟨wr.heap.size,0,none⟩) n n] 307)).alloc (.cells #[.bool true] 4)).alloc (.cells #[.int .i64 0] 3)
    have hrow3:=owns_keep (alloc_below _ (.cells #[.int .i64 0] 3)) (owns_keep (alloc_below _ (.cells #[.bool true] 4)) (owns_keep (alloc_below x1 (.cells #[.slice (some ⟨wr.heap.size,0,none⟩) n n] 307)) hrow))
    simp only [World.size_alloc] at kK kC
    generalize (((x1.alloc (.cells #[.slice (some ⟨wr.heap.size,0,none⟩) n n] 307)).alloc (.cells #[.bool true] 4)).alloc (.cells #[.int .i64 0] 3))=x2 at *
    have hst:SnSt w x2 w.heap.size (x1.heap.size+1) x1.heap.size (x1.heap.size+1+1) wr.heap.size n []:=by
     refine ⟨hB1,⟨by omega,by omega,by omega⟩,⟨by omega,by omega,by omega⟩,⟨by omega,by omega,by omega⟩,⟨by omega,by omega,by omega⟩,kG3.cell.1 0,kK,kS.cell.1 0,hrow3,?_⟩
     rw [hcn];exact kC
    clear kS kK kC hrow3 hrow hown hgr hzm hcn hbx
    refine (lists_any _ _ _ _ g w _ _ _ _ _ _ n hR hok hn100 hst).mono ?_
    rintro r x3 ⟨rfl,hs3⟩
    clear hst kG' kG3 iG zG zG1 zG2 zn0 zn1 zn2 hsg
    obtain ⟨iK,-,zK⟩:=hs3.good.cell
    obtain ⟨iC,-,zC⟩:=hs3.cnt.cell
    have cg:=hs3.g
    have zg:=cell_lt cg
    have hb3:=hs3.bel
    have hR2:=HR.out.2
    cases hgd:inG (n:Int) g.places with
    | false =>
     rw [hgd] at iK
     have HX:=Lib.hid hgd
     clear hgd hs3 hR2
     go_wp2
     go_ret
     exact ⟨by rw [HR.out.1,HX.out];rfl,hb3⟩
    | true =>
     rw [hgd] at iK
     have HX:=Lib.hid hgd
     clear hgd hs3
     go_wp2
     go_ret
     exact ⟨by rw [HR.out.1,HX.out,Bool.true_and,← HR.out.2];rfl,hb3⟩
 ·have hG:=grB_fit hfit
  have HG:=Lib.hid hG
  cases h1:inB g.wires 0 100 with
  | false =>
   have HF:=Lib.hid (And.intro h1 True.intro)
   clear h1 hfit hG
   go_enter Tryz.func189,Tryz.ntmps189
   go_wp2_with (go_at_call 128;refine (within_any _ _ _ _).mono ?_;rintro r w2 ⟨rfl,rfl⟩;rw [HF.out.1])
   go_ret
   exact ⟨by rw [HG.out];rfl,hA⟩
  | true =>
   have HF:=Lib.hid (And.intro h1 True.intro)
   by_cases h2:g.edges.length≤60
   ·have n2:¬ (60:Int)<g.edges.length:=by omega
    by_cases h3:g.ins.length≤12
    ·have n3:¬ (12:Int)<g.ins.length:=by omega
     have n4:(12:Int)<g.outs.length:=by
      rcases Nat.lt_or_ge 12 g.outs.length with h|h
      ·omega
      ·exact absurd ⟨h1,h2,h3,h⟩ hfit
     clear h1 hfit hG h2 h3
     go_enter Tryz.func189,Tryz.ntmps189
     go_wp2_with (go_at_call 128;refine (within_any _ _ _ _).mono ?_;rintro r w2 ⟨rfl,rfl⟩;rw [HF.out.1])
     go_ret
     exact ⟨by rw [HG.out];rfl,hA⟩
    ·have n3:(12:Int)<g.ins.length:=by omega
     clear h1 hfit hG h2 h3
     go_enter Tryz.func189,Tryz.ntmps189
     go_wp2_with (go_at_call 128;refine (within_any _ _ _ _).mono ?_;rintro r w2 ⟨rfl,rfl⟩;rw [HF.out.1])
     go_ret
     exact ⟨by rw [HG.out];rfl,hA⟩
   ·have n2:(60:Int)<g.edges.length:=by omega
    clear h1 hfit hG h2
    go_enter Tryz.func189,Tryz.ntmps189
    go_wp2_with (go_at_call 128;refine (within_any _ _ _ _).mono ?_;rintro r w2 ⟨rfl,rfl⟩;rw [HF.out.1])
    go_ret
    exact ⟨by rw [HG.out];rfl,hA⟩
end Go.Proofs.YtbljmfcifljkaaaGreatDoor
/-
  Valid graphs over a field, the program's. Own work.
-/
namespace Go.Proofs.YtbljmfcifljkaaaGreatDoor
open Go.RowKit
set_option maxRecDepth 100000
set_option maxHeartbeats 4000000
theorem overB_no {p:Int} {g:GrI} {k:Nat} (hk:k<g.edges.length) (h:(!valB g.edges[k].kind || decide (g.edges[k].value<p))=false):overB p g=false :=
 List.all_eq_false.2 ⟨_,List.getElem_mem hk,by simp only [h];decide⟩
theorem overB_yes {p:Int} {g:GrI} (h:∀ j,∀ hj:j<g.edges.length,(!valB (g.edges[j]'hj).kind || decide ((g.edges[j]'hj).value<p))=true):overB p g=true :=
 List.all_eq_true.2 fun e he=>by obtain ⟨j,hj,rfl⟩:=List.mem_iff_getElem.1 he;exact h j hj
theorem isGraphOver_any (p:Int) (ve vi vo:Value) (g:GrI) (w:World) (ht:PrimeTab w) (hR:GrR w ve vi vo g) (hok:GrOk g) :
  Calls Tryz.prog 123 #[.int .i64 p,.agg #[.int .i64 g.wires,ve,vi,vo]] w (FlP (primeB p && (grB g && overB p g)) w):=by
 obtain ⟨⟨ae,ce,rfl⟩,⟨ai,ci,rfl⟩,ao,co,rfl⟩:=hR.slices
 have hA:=alloc_below w (.cells #[.int .i64 g.wires,.slice ae g.edges.length ce,.slice ai g.ins.length ci,.slice ao g.outs.length co] 53)
 have hF:=isField_any p _ (ht.keep hA)
 cases hp:primeB p with
 | false =>
  rw [hp] at hF
  have HF:=Lib.hid hF
  clear hF hp
  go_enter Tryz.func123,Tryz.ntmps123
  go_wp2_with (go_at_call 89;refine HF.out.mono ?_;rintro r w1 ⟨rfl,hb1⟩)
  go_ret
  exact ⟨rfl,hA.trans (hb1.mono hA.size)⟩
 | true =>
  rw [hp] at hF
  have HF:=Lib.hid hF
  clear hF hp
  have hG:=fun (w1:World) (hb:Below w.heap.size w w1)=>isGraph_any _ _ _ g w1 (hR.keep hb) hok
  cases hg:grB g with
  | false =>
   rw [hg] at hG
   have HG:=Lib.hid hG
   clear hG hg
   go_enter Tryz.func123,Tryz.ntmps123
   have kG:=Bk.new w 53 #[.int .i64 g.wires,.slice ae g.edges.length ce,.slice ai g.ins.length ci,.slice ao g.outs.length co]
   go_wp2_with fail
   generalize (w.alloc (.cells #[.int .i64 g.wires,.slice ae g.edges.length ce,.slice ai g.ins.length ci,.slice ao g.outs.length co] 53))=u0 at *
   refine HF.out.mono ?_
   rintro r w1 ⟨rfl,hb1⟩
   replace kG:=kG.keep hb1
   have hB1:=hA.trans (hb1.mono hA.size)
   obtain ⟨iG,-,zG⟩:=kG.cell
   go_wp2_with fail
   refine (HG.out _ hB1).mono ?_
   rintro r w2 ⟨rfl,hb2⟩
   go_wp2
   go_ret
   exact ⟨rfl,hB1.trans (hb2.mono hB1.size)⟩
  | true =>
   rw [hg] at hG
   have HG:=Lib.hid hG
   clear hG hg
   go_enter Tryz.func123,Tryz.ntmps123
   have kG:=Bk.new w 53 #[.int .i64 g.wires,.slice ae g.edges.length ce,.slice ai g.ins.length ci,.slice ao g.outs.length co]
   go_wp2_with fail
   generalize (w.alloc (.cells #[.int .i64 g.wires,.slice ae g.edges.length ce,.slice ai g.ins.length ci,.slice ao g.outs.length co] 53))=u0 at *
   refine HF.out.mono ?_
   rintro r w1 ⟨rfl,hb1⟩
   replace kG:=kG.keep hb1
   have hB1:=hA.trans (hb1.mono hA.size)
   obtain ⟨iG,-,zG⟩:=kG.cell
   go_wp2_with fail
   refine (HG.out _ hB1).mono ?_
   rintro r w2 ⟨rfl,hb2⟩
   clear iG zG
   replace kG:=kG.keep hb2
   have hB2:=hB1.trans (hb2.mono hB1.size)
   obtain ⟨iG,-,zG⟩:=kG.cell
   go_wp2_with fail
   clear hb1 hb2 hB1 iG zG kG hA
   obtain ⟨pe,cpe,he,hce,hat⟩:=hR.ed
   simp only [Value.slice.injEq] at he
   obtain ⟨rfl,-,rfl⟩:=he
   have hel:=hok.ed
   go_loopw [18] (fun i wr=>∃ k:Nat,k≤g.edges.length∧i=.int .i64 k∧Below w.heap.size w wr∧∀ j,∀ h:j<g.edges.length,j<k → (!valB (g.edges[j]'h).kind || decide ((g.edges[j]'h).value<p))=true) (fun i _=>g.edges.length - (intOf i).toNat)
   case atStart=>exact ⟨0,Nat.zero_le _,rfl,hB2,fun j h1 h2=>by omega⟩
   case round =>
    clear hB2
    obtain ⟨k,hk,rfl,hbw,hall⟩:=hrel
    have HALL:=Lib.hid hall
    clear hall
    by_cases hlt:k<g.edges.length
    ·obtain ⟨b,o,rfl,_,hnd⟩:=hat k hlt
     obtain ⟨c0,c1,x1,x2,c2,c3,hi,ho⟩:=hnd.keep hbw
     obtain ⟨a1,q1,rfl⟩:=hi.slice
     obtain ⟨a2,q2,rfl⟩:=ho.slice
     have bz:=cell_lt c0
     have hB3:=hbw.trans ((alloc_below wr (.cells #[.int .i64 g.edges[k].kind,.int .i64 g.edges[k].value,.slice a1 g.edges[k].ins.length q1,.slice a2 g.edges[k].outs.length q2] 189)).mono hbw.size)
     cases hv:valB g.edges[k].kind with
     | false =>
      have HV:=Lib.hid hv
      have hnew:(!valB g.edges[k].kind || decide (g.edges[k].value<p))=true:=by rw [hv];rfl
      have HNEW:=Lib.hid hnew
      clear hv hnew hat hnd
      go_wp2_with (go_at_call 191;refine (hasValue_any _ _).mono ?_;rintro r w3 ⟨rfl,rfl⟩;rw [HV.out])
      go_roundw
      case rel=>exact ⟨k+1,by omega,by go_num,hB3,fun j h1 h2=>by
       rcases Nat.lt_or_ge j k with h|h
       ·exact HALL.out j h1 h
       ·obtain rfl:j=k:=by omega
        exact HNEW.out⟩
      case measure=>simp [intOf];omega
     | true =>
      have HV:=Lib.hid hv
      by_cases hlp:g.edges[k].value<p
      ·have hnew:(!valB g.edges[k].kind || decide (g.edges[k].value<p))=true:=by rw [hv,decide_eq_true hlp];rfl
       have HNEW:=Lib.hid hnew
       have hge:¬ p≤g.edges[k].value:=by omega
       clear hv hnew hat hnd
       go_wp2_with (go_at_call 191;refine (hasValue_any _ _).mono ?_;rintro r w3 ⟨rfl,rfl⟩;rw [HV.out])
       go_roundw
       case rel=>exact ⟨k+1,by omega,by go_num,hB3,fun j h1 h2=>by
        rcases Nat.lt_or_ge j k with h|h
        ·exact HALL.out j h1 h
        ·obtain rfl:j=k:=by omega
         exact HNEW.out⟩
       case measure=>simp [intOf];omega
      ·have hnew:(!valB g.edges[k].kind || decide (g.edges[k].value<p))=false:=by rw [hv,decide_eq_false hlp];rfl
       have HNEW:=Lib.hid (overB_no hlt hnew)
       have hge:p≤g.edges[k].value:=by omega
       clear hv hnew hat hnd
       go_wp2_with (go_at_call 191;refine (hasValue_any _ _).mono ?_;rintro r w3 ⟨rfl,rfl⟩;rw [HV.out])
       go_ret
       exact ⟨by rw [HNEW.out];rfl,hB3⟩
    ·obtain rfl:k=g.edges.length:=by omega
     have hfin:overB p g=true:=overB_yes fun j hj=>HALL.out j hj hj
     have HFIN:=Lib.hid hfin
     clear hfin hat
     go_wp2
     go_ret
     exact ⟨by rw [HFIN.out];rfl,hbw⟩
end Go.Proofs.YtbljmfcifljkaaaGreatDoor
/-
  Rows of lists of numbers; each wire once: the program's joined, isPermutation, occursOnce. Own work.
-/
namespace Go.Proofs.YtbljmfcifljkaaaGreatDoor
open Go.RowKit
set_option maxRecDepth 100000
set_option maxHeartbeats 4000000
theorem ints_src {w:World} {v:Value} {zs:List Int} (h:IntsAt w v zs):SrcAt w 1 v zs.length (zs.flatMap iCell):=by
 refine slat_src (by omega) iCell_len h ?_
 rintro i b o hi ⟨_,h0⟩ j hj
 obtain rfl:j=0:=by omega
 exact h0
theorem iCell_one (zs:List Int):∀ u ∈ zs.flatMap iCell,u.oneCell'=true:=by
 intro u hu
 obtain ⟨d,_,hd⟩:=List.mem_flatMap.1 hu
 simp [iCell] at hd
 subst hd;rfl
theorem ints_append {w:World} {v:Value} {zs:List Int} (h:IntsAt w v zs) {ops:Array Oper} {rest:List Oper} {o:Oper} {a:Act} {Q:Exit → Act → World → Prop} (hgd:o.guard=none) (s x:Operand)
  (ho:o.op=.call { callee:=.builtin .append,args:=#[s,x],argTypes:=#[40,40] })
  (B:Nat) (u:Value) (xs:List Int) (hs:a.eval s=u) (hx:a.eval x=v) (hown:Rw w B u xs) (hB:B≤w.heap.size) (hl:xs.length+zs.length≤1048576)
  (H:∀ v' w',Rw w' B v' (xs ++ zs) → w.grownBy w' u.ownBlock → (v'.ownBlock=u.ownBlock∨v'.ownBlock=some w.heap.size) → wpList Tryz.prog ops Q rest (a.put o.dst v') w'):wpList Tryz.prog ops Q (o :: rest) a w:=by
 obtain ⟨i0,hi,hz0,hz1,hz2⟩:=info_parts infoInt
 refine wpList_append_src hgd s x 40 ho B 3 i0 _ 1 8 Tryz.underlying40 hi hz0 hz1 hz2 rfl (by decide) u xs.length _ hs hown v zs.length _ hx (ints_src h) (iCell_one zs) (by unfold maxLen;omega) (by omega) hB ?_
 intro v' w' h1 h2 h3
 refine H v' w' ?_ h2 h3
 unfold Rw
 rw [List.length_append,List.flatMap_append]
 exact h1
theorem ints_empty (w:World) (g B:Nat) (hg:g=w.heap.size) (hB:B≤w.heap.size):Rw (w.alloc (.cells #[] 3)) B (.slice (some ⟨g,0,none⟩) 0 0) []:=by
 subst hg
 have:=World.ownsRow_made (base:=B) (size:=1) (e:=3) w #[] 0 hB (by unfold maxLen;omega) rfl
 simpa [Rw] using this
def LsAt (w:World) (v:Value) (Ls:List (List Int)):Prop:=SlAt 1 v Ls.length fun i b o=>∃ h:i<Ls.length,∃ u,w.cell? ⟨b,o,none⟩=some u∧IntsAt w u Ls[i]
theorem LsAt.keep {w w':World} (hb:Below w.heap.size w w') {v:Value} {Ls:List (List Int)} (h:LsAt w v Ls):LsAt w' v Ls :=
 SlAt.mono h fun _ _ _ ⟨hi,u,h1,h2⟩=>⟨hi,u,cell_keep hb h1,h2.keep hb⟩
theorem LsAt.slice {w:World} {v:Value} {Ls:List (List Int)} (h:LsAt w v Ls):∃ a c,v=.slice a Ls.length c:=by
 obtain ⟨a,cap,rfl,_⟩:=h;exact ⟨a,cap,rfl⟩
theorem flat_snoc (Ls:List (List Int)) (k:Nat) (h:k<Ls.length):(Ls.take (k+1)).flatten=(Ls.take k).flatten ++ Ls[k]:=by
 rw [List.take_succ_eq_append_getElem h,List.flatten_append]
 simp only [List.flatten_cons,List.flatten_nil,List.append_nil]
theorem flat_le (Ls:List (List Int)) (k:Nat) (h:k<Ls.length):(Ls.take (k+1)).flatten.length=(Ls.take k).flatten.length+Ls[k].length∧(Ls.take (k+1)).flatten.length≤Ls.flatten.length:=by
 refine ⟨by rw [flat_snoc Ls k h,List.length_append],?_⟩
 have h2:Ls.flatten=(Ls.take (k+1)).flatten ++ (Ls.drop (k+1)).flatten:=by rw [← List.flatten_append,List.take_append_drop]
 rw [h2,List.length_append]
 omega
theorem joined_any (v:Value) (Ls:List (List Int)) (w:World) (hv:LsAt w v Ls) (hn:Ls.length≤1000) (hm:Ls.flatten.length≤1000) :
  Calls Tryz.prog 251 #[v] w fun e w'=>∃ v',e=.returned v'∧Rw w' w.heap.size v' Ls.flatten∧Below w.heap.size w w':=by
 obtain ⟨a,cap,rfl,hc,hat⟩:=hv
 go_enter Tryz.func251,Tryz.ntmps251
 go_wp2
 have hr0:=ints_empty w w.heap.size w.heap.size rfl (Nat.le_refl _)
 have hb0:=alloc_below w (.cells #[] 3)
 go_loopw [3,9] (fun rv i wr=>∃ k:Nat,k≤Ls.length∧i=.int .i64 k∧Rw wr w.heap.size rv (Ls.take k).flatten∧Below w.heap.size w wr) (fun _ i _=>Ls.length - (intOf i).toNat)
 case atStart=>exact ⟨0,Nat.zero_le _,rfl,hr0,hb0⟩
 case round =>
  clear hr0 hb0
  obtain ⟨k,hk,rfl,hrow,hbel⟩:=hrel
  by_cases hlt:k<Ls.length
  ·obtain ⟨b,o,rfl,_,u,c0,hu⟩:=hat k hlt
   rw [Nat.mul_one] at c0
   replace c0:=cell_keep hbel c0
   replace hu:=hu.keep hbel
   have bz:=cell_lt c0
   obtain ⟨f1,f2⟩:=flat_le Ls k hlt
   have hwz:=hbel.size
   have hT:=flat_snoc Ls k hlt
   have HT:=Lib.hid hT
   obtain ⟨au,cu,rfl⟩:=hu.slice
   obtain ⟨ar,cr,rfl⟩:=hrow.slice
   clear hat hT
   go_wp2_with (at_builtin;refine ints_append hu rfl (.tmp 13) (.tmp 14) rfl w.heap.size (.slice ar (Ls.take k).flatten.length cr) (Ls.take k).flatten rfl rfl hrow hwz (by omega) ?_;intro v2 w2 h1 h2 h3)
   have hb2:Below w.heap.size w w2:=hbel.grown h2 hwz (fun j hj=>(World.ownsRow.lt hrow j hj).1)
   go_roundw
   case rel=>exact ⟨k+1,by omega,by go_num,by rw [HT.out];exact h1,hb2⟩
   case measure=>simp [intOf];omega
  ·obtain rfl:k=Ls.length:=by omega
   rw [List.take_length] at hrow
   go_wp2
   go_ret
   exact ⟨_,rfl,hrow,hbel⟩
theorem permB_no1 {l:List Int} {n:Int} (h:¬ (l.length:Int)=n):permB l n=false:=by unfold permB;rw [decide_eq_false h];rfl
theorem permB_no2 {l:List Int} {n:Int} {k:Nat} (hk:k<l.length) (h:inB l[k] 0 (n - 1)=false):permB l n=false:=by
 unfold permB
 have:inG n l=false:=List.all_eq_false.2 ⟨_,List.getElem_mem hk,by simp [h]⟩
 rw [this];simp
theorem permB_no3 {l:List Int} {n:Int} {k:Nat} (hk:k<l.length) (h:l[k] ∈ l.take k):permB l n=false:=by
 unfold permB
 have:¬ l.Nodup:=by
  intro hd
  have h2:l=l.take k ++ l.drop k:=(List.take_append_drop k l).symm
  rw [h2,List.nodup_append] at hd
  exact hd.2.2 _ h _ (by rw [List.drop_eq_getElem_cons hk];exact List.mem_cons.2 (Or.inl rfl)) rfl
 rw [decide_eq_false this];simp
theorem permB_yes {l:List Int} {n:Int} (h1:(l.length:Int)=n) (h2:inG n l=true) (h3:l.Nodup):permB l n=true:=by
 unfold permB;rw [decide_eq_true h1,h2,decide_eq_true h3];rfl
theorem nodup_snoc {l:List Int} {x:Int} (h:l.Nodup) (hx:x ∉ l):(l ++ [x]).Nodup:=by
 rw [List.nodup_append]
 exact ⟨h,by simp,fun a ha b hb=>by simp at hb;subst hb;exact fun e=>hx (e ▸ ha)⟩
theorem isPermutation_any (v:Value) (zs:List Int) (z:Int) (w:World) (hv:IntsAt w v zs) (hn:zs.length≤1000) :
  Calls Tryz.prog 257 #[v,.int .i64 z] w (FlP (permB zs z) w):=by
 obtain ⟨a,cap,rfl,hc,hat⟩:=hv
 by_cases hz:(zs.length:Int)=z
 ·subst hz
  obtain ⟨i0,hi,hz0,hz1,hz2⟩:=info_parts infoBool
  have hbe:((zs.length:Int) != zs.length)=false:=by simp
  obtain ⟨n,hnn⟩:∃ n,zs.length=n:=⟨_,rfl⟩
  replace hat:=fun (i:Nat) (hi:i<n)=>hat i (by rw [hnn];exact hi)
  rw [hnn] at hn hc hbe ⊢
  have HNN:=Lib.hid hnn.symm
  clear hnn
  go_enter Tryz.func257,Tryz.ntmps257
  go_wp2_with (at_make;refine wpList_make_full _ rfl _ _ _ rfl w.heap.size 4 i0 _ 1 Tryz.underlying307 hi hz0 hz1 _ _ _ _ n rfl rfl rfl rfl (by rw [hz2];omega) (by unfold maxLen;omega) (Nat.le_refl _) ?_;intro w1 hown hgr)
  have hzm:=made_flat (f:=bCell) false n (sz:=1) (by omega) rfl
  have hrow:w1.ownsRow w.heap.size 4 1 (.slice (some ⟨w.heap.size,0,none⟩) n n) n ((seenL n []).flatMap bCell):=by rw [seenL_nil,← hzm];exact hown
  have hb1:Below w.heap.size w w1:=(Below.refl _ _).grown hgr (Nat.le_refl _) (by simp)
  clear hown hzm hgr hi hz0 hz1 hz2
  go_loopw [16] (fun i wr=>∃ k:Nat,k≤n∧i=.int .i64 k∧wr.ownsRow w.heap.size 4 1 (.slice (some ⟨w.heap.size,0,none⟩) n n) n ((seenL n (zs.take k)).flatMap bCell)∧Below w.heap.size w wr∧inG n (zs.take k)=true∧(zs.take k).Nodup) (fun i _=>n - (intOf i).toNat)
  case atStart=>exact ⟨0,Nat.zero_le _,rfl,hrow,hb1,rfl,by simp⟩
  case round =>
   clear hrow hb1
   obtain ⟨k,hk,rfl,hrow,hbel,hin,hnd⟩:=hrel
   by_cases hlt:k<n
   ·have hlz:k<zs.length:=by rw [← HNN.out];exact hlt
    obtain ⟨b,o,rfl,_,c0⟩:=hat k hlt
    rw [Nat.mul_one] at c0
    replace c0:=cell_keep hbel c0
    have bz:=cell_lt c0
    obtain ⟨x,hx⟩:∃ x,zs[k]=x:=⟨_,rfl⟩
    have hT1:zs.take (k+1)=zs.take k ++ [x]:=by rw [List.take_succ_eq_append_getElem hlz,hx]
    rw [hx] at c0
    have w1:IntKind.i64.wrap ((n:Int) - 1)=(n:Int) - 1:=IntWalk.i64_in _ (by omega)
    have HS:=Lib.hid (And.intro hin (And.intro hnd hT1))
    clear hat hin hnd hT1
    cases hib:inB x 0 ((n:Int) - 1) with
    | false =>
     have hfin:permB zs n=false:=permB_no2 hlz (by rw [hx];exact hib)
     have HB:=Lib.hid hib
     have HFIN:=Lib.hid hfin
     clear hib hfin hx
     go_wp2_with (go_at_call 128;refine (within_any _ _ _ _).mono ?_;rintro r w2 ⟨rfl,rfl⟩;rw [HB.out])
     go_ret
     exact ⟨by rw [HFIN.out];rfl,hbel⟩
    | true =>
     have hz2:0≤x∧x<n:=by simp [inB] at hib;omega
     obtain ⟨m,rfl⟩:∃ m:Nat,x=m:=⟨x.toNat,by omega⟩
     have hmn:m<n:=by omega
     have HB:=Lib.hid hib
     clear hib hz2
     have s0:=owns_cell bCell_len hrow m 0 (by rw [seenL_len];exact hmn) (by omega)
     rw [seenL_get] at s0
     have f0:=hrow.frozenAt m
     simp only [bCell,Nat.mul_one,Nat.add_zero,List.getElem?_cons_zero] at s0
     have zg2:=cell_lt s0
     cases hs:(zs.take k).contains (m:Int) with
     | true =>
      rw [hs] at s0
      have hfin:permB zs n=false:=permB_no3 hlz (by rw [hx];simpa using hs)
      have HFIN:=Lib.hid hfin
      clear hs hfin hx hrow
      go_wp2_with (go_at_call 128;refine (within_any _ _ _ _).mono ?_;rintro r w2 ⟨rfl,rfl⟩;rw [HB.out])
      go_ret
      exact ⟨by rw [HFIN.out];rfl,hbel⟩
     | false =>
      rw [hs] at s0
      have hrow2:=owns_set bCell_len hrow m 0 m (by rw [seenL_len];exact hmn) (by omega) (by omega) (.bool true) true rfl
      rw [← seenL_in n (zs.take k) m hmn,← HS.out.2.2] at hrow2
      have hnm:(m:Int) ∉ zs.take k:=by simpa using hs
      have hin2:inG n (zs.take (k+1))=true:=by rw [HS.out.2.2,inG_snoc,HS.out.1,HB.out];rfl
      have hnd2:(zs.take (k+1)).Nodup:=by rw [HS.out.2.2];exact nodup_snoc HS.out.2.1 hnm
      have HN2:=Lib.hid (And.intro hin2 hnd2)
      clear hs hx hrow hnm hin2 hnd2
      go_wp2_with (go_at_call 128;refine (within_any _ _ _ _).mono ?_;rintro r w2 ⟨rfl,rfl⟩;rw [HB.out])
      go_roundw
      case rel=>exact ⟨k+1,by omega,by go_num,hrow2,hbel.setCell (Nat.le_refl _) _,HN2.out.1,HN2.out.2⟩
      case measure=>simp [intOf];omega
   ·obtain rfl:k=n:=by omega
    rw [List.take_of_length_le (by rw [← HNN.out];exact Nat.le_refl _)] at hin hnd
    have hfin:permB zs k=true:=permB_yes (by rw [← HNN.out]) hin hnd
    have HFIN:=Lib.hid hfin
    clear hfin hat hin hnd hrow
    go_wp2
    go_ret
    exact ⟨by rw [HFIN.out];rfl,hbel⟩
 ·have hfin:=permB_no1 hz
  have HFIN:=Lib.hid hfin
  have hbe:((zs.length:Int) != z)=true:=by simpa using hz
  clear hfin hat hz
  go_enter Tryz.func257,Tryz.ntmps257
  go_wp2
  go_ret
  exact ⟨by rw [HFIN.out];rfl,Below.refl _ _⟩
theorem occursOnce_any (v:Value) (Ls:List (List Int)) (z:Int) (w:World) (hv:LsAt w v Ls) (hn:Ls.length≤1000) (hm:Ls.flatten.length≤1000) :
  Calls Tryz.prog 192 #[.int .i64 z,v] w (FlP (permB Ls.flatten z) w):=by
 have hj:=joined_any v Ls w hv hn hm
 obtain ⟨a,c,rfl⟩:=hv.slice
 obtain ⟨F,hF⟩:∃ F,Ls.flatten=F:=⟨_,rfl⟩
 rw [hF] at hj hm ⊢
 have HJ:=Lib.hid hj
 clear hj hF hv
 go_enter Tryz.func192,Tryz.ntmps192
 go_wp2_with fail
 refine HJ.out.mono ?_
 rintro r w1 ⟨v1,rfl,hr,hb⟩
 obtain ⟨a1,c1,rfl⟩:=hr.slice
 go_wp2_with fail
 refine (isPermutation_any _ F z _ hr.at hm).mono ?_
 rintro r w2 ⟨rfl,hb2⟩
 go_wp2
 go_ret
 exact ⟨rfl,hb.trans (hb2.mono hb.size)⟩
end Go.Proofs.YtbljmfcifljkaaaGreatDoor
/-
  Monogamous graphs, the program's. Own work.
-/
namespace Go.Proofs.YtbljmfcifljkaaaGreatDoor
open Go.RowKit
set_option maxRecDepth 100000
set_option maxHeartbeats 4000000
theorem addrAdd (b o j:Nat):(⟨b,o,none⟩:Addr).add j=⟨b,o+j,none⟩:=by
 cases j <;> simp [Addr.add]
theorem row_blk_ne {w:World} {B e sz b:Nat} {v:Value} {n:Nat} {xs:List Value} {cs:Array Value} {t:TypeId} (h:w.ownsRow B e sz v n xs) (hb:Bk w b t cs) (he:e ≠ t):v.ownBlock ≠ some b:=by
 intro hk
 rcases h.2 with ⟨rfl,_⟩|⟨g,cap,cur,rfl,_,hgg,_⟩
 ·simp [Value.ownBlock] at hk
 ·simp [Value.ownBlock] at hk
  subst hk
  unfold Bk at hb
  rw [hgg] at hb
  simp at hb
  exact he hb.2
theorem Bk.grown {w w':World} {row:Option Nat} {b:Nat} {t:TypeId} {cs:Array Value} (hg:w.grownBy w' row) (h:Bk w b t cs) (hr:row ≠ some b):Bk w' b t cs:=(hg.block b h.lt (fun e=>hr e.symm)).trans h
theorem flat2 (f:EdI → List Int):∀ (L:List EdI),(∀ e ∈ L,(f e).length≤2) → (L.flatMap f).length≤2 * L.length
 | [],_=>by simp
 | e :: L,h=>by
  have h1:=h e (by simp)
  have h2:=flat2 f L (fun x hx=>h x (by simp [hx]))
  rw [List.flatMap_cons,List.length_append,List.length_cons]
  omega
theorem grB_lens {g:GrI} (h:grB g=true):g.edges.length≤60∧g.origs.length≤132∧g.dests.length≤132:=by
 unfold grB gfitB at h
 simp only [Bool.and_eq_true,decide_eq_true_eq,List.all_eq_true] at h
 obtain ⟨⟨_,h2,h3,h4⟩,h5,_⟩:=h
 have a:=flat2 EdI.outs g.edges (fun e he=>(edB_len (h5 e he)).2)
 have b:=flat2 EdI.ins g.edges (fun e he=>(edB_len (h5 e he)).1)
 unfold GrI.origs GrI.dests
 rw [List.length_append,List.length_append]
 omega
theorem flat_cons_map (z:List Int) (f:EdI → List Int) (L:List EdI):(z :: L.map f).flatten=z ++ L.flatMap f:=by
 rw [List.flatten_cons,List.flatMap_def]
theorem infoLs:(Tryz.prog.info? 40).map (fun i=>(i.zero,i.size,i.bytes))=some (some (.slice none 0 0),1,24):=by kernel_rfl
def lCell (x:List Int × Value):List Value:=[x.2]
theorem lCell_len (x:List Int × Value):(lCell x).length=1:=rfl
structure LsR (w0 w:World) (v:Value) (xs:List (List Int × Value)):Prop where
 row:w.ownsRow w0.heap.size 40 1 v xs.length (xs.flatMap lCell)
 els:∀ x ∈ xs,IntsAt w0 x.2 x.1
theorem LsR.at {w0 w:World} {v:Value} {xs:List (List Int × Value)} (h:LsR w0 w v xs) (hb:Below w0.heap.size w0 w):LsAt w v (xs.map Prod.fst):=by
 have ho:w.ownsRow w0.heap.size 40 1 v (xs.map Prod.fst).length (xs.flatMap lCell):=by rw [List.length_map];exact h.row
 refine owns_slat ho _ fun i b o hi' hc=>⟨hi',?_⟩
 have hi:i<xs.length:=by simpa using hi'
 have g:=(hc 0 (by omega)).trans (flat_get lCell_len xs i 0 hi (by omega))
 rw [List.getElem_map]
 exact ⟨xs[i].2,g,(h.els _ (List.getElem_mem hi)).keep hb⟩
theorem LsR.keep {w0 w w':World} {v:Value} {xs:List (List Int × Value)} (hb:Below w.heap.size w w') (h:LsR w0 w v xs):LsR w0 w' v xs:=⟨owns_keep hb h.row,h.els⟩
theorem LsR.grown {w0 w w':World} {v:Value} {xs:List (List Int × Value)} {row:Option Nat} (h:LsR w0 w v xs) (hg:w.grownBy w' row) (hne:∀ k,v.ownBlock=some k → row ≠ some k):LsR w0 w' v xs:=by
 refine ⟨World.ownsRow.kept h.row hg ?_,h.els⟩
 cases hv:v.ownBlock with
 | none=>exact .inl rfl
 | some k=>exact .inr (fun e=>hne k hv (e ▸ rfl))
theorem LsR.made {w0 w:World} {b:Nat} {u:Value} {zs:List Int} (hbo:w.heap[b]?=some (.cells #[u] 40)) (hB:w0.heap.size≤b) (hu:IntsAt w0 u zs):LsR w0 w (.slice (some ⟨b,0,none⟩) 1 1) [(zs,u)] :=
 ⟨⟨rfl,.inr ⟨b,1,#[u],rfl,hB,hbo,Nat.le_refl _,by unfold maxLen;omega,rfl,rfl⟩⟩,fun x hx=>by simp only [List.mem_singleton] at hx;subst hx;exact hu⟩
theorem ls_append {w0 w:World} {ops:Array Oper} {rest:List Oper} {o:Oper} {a:Act} {Q:Exit → Act → World → Prop} (hgd:o.guard=none) (s x:Operand)
  (ho:o.op=.call { callee:=.builtin .append,args:=#[s,x],argTypes:=#[256,256] })
  (v:Value) (xs:List (List Int × Value)) (hs:a.eval s=v) (hrow:LsR w0 w v xs) (u:Value) (zs:List Int) (hu:IntsAt w0 u zs) (b:Nat) (hx:a.eval x=.slice (some ⟨b,0,none⟩) 1 1) (hb:w.heap[b]?=some (.cells #[u] 40)) (hw0:w0.heap.size≤w.heap.size) (hl:xs.length≤1000)
  (H:∀ v' w',LsR w0 w' v' (xs ++ [(zs,u)]) → w.grownBy w' v.ownBlock → (v'.ownBlock=v.ownBlock∨v'.ownBlock=some w.heap.size) → wpList Tryz.prog ops Q rest (a.put o.dst v') w'):wpList Tryz.prog ops Q (o :: rest) a w:=by
 obtain ⟨i0,hi,hz0,hz1,hz2⟩:=info_parts infoLs
 obtain ⟨au,cu,rfl⟩:=hu.slice
 refine wpList_append_src hgd s x 256 ho w0.heap.size 40 i0 _ 1 24 Tryz.underlying256 hi hz0 hz1 hz2 rfl (by decide) v xs.length _ hs hrow.row _ 1 [.slice au zs.length cu] hx ⟨rfl,.inr ⟨_,1,rfl,?_⟩⟩ ?_ (by unfold maxLen;omega) (by omega) hw0 ?_
 ·intro j u hj
  obtain ⟨m0,_,_⟩:=made_cell hb
  rw [addrAdd,Nat.zero_add,m0 j]
  simpa using hj
 ·intro u hu'
  simp only [List.mem_singleton] at hu'
  subst hu';rfl
 ·intro v' w' h1 h2 h3
  refine H v' w' ⟨?_,?_⟩ h2 h3
  ·rw [List.length_append,List.flatMap_append]
   exact h1
  ·intro y hy
   rcases List.mem_append.1 hy with hy|hy
   ·exact hrow.els y hy
   ·simp only [List.mem_singleton] at hy
    subst hy;exact hu
theorem isMonogamous_any (ve vi vo:Value) (g:GrI) (w:World) (hR:GrR w ve vi vo g) (hok:GrOk g) :
  Calls Tryz.prog 124 #[.agg #[.int .i64 g.wires,ve,vi,vo]] w (FlP (grB g && monoB g) w):=by
 obtain ⟨⟨ae,ce,rfl⟩,⟨ai,ci,rfl⟩,ao,co,rfl⟩:=hR.slices
 have hA:=alloc_below w (.cells #[.int .i64 g.wires,.slice ae g.edges.length ce,.slice ai g.ins.length ci,.slice ao g.outs.length co] 53)
 have hG:=isGraph_any _ _ _ g _ (hR.keep hA) hok
 cases hg:grB g with
 | false =>
  rw [hg] at hG
  have HG:=Lib.hid hG
  clear hG hg
  go_enter Tryz.func124,Tryz.ntmps124
  go_wp2_with fail
  refine HG.out.mono ?_
  rintro r w1 ⟨rfl,hb1⟩
  go_wp2
  go_ret
  exact ⟨rfl,hA.trans (hb1.mono hA.size)⟩
 | true =>
  rw [hg] at hG
  have HG:=Lib.hid hG
  have HGR:=Lib.hid hg
  clear hG hg
  go_enter Tryz.func124,Tryz.ntmps124
  have kG:=Bk.new w 53 #[.int .i64 g.wires,.slice ae g.edges.length ce,.slice ai g.ins.length ci,.slice ao g.outs.length co]
  go_wp2_with fail
  generalize (w.alloc (.cells #[.int .i64 g.wires,.slice ae g.edges.length ce,.slice ai g.ins.length ci,.slice ao g.outs.length co] 53))=u0 at *
  refine HG.out.mono ?_
  rintro r w1 ⟨rfl,hb1⟩
  replace kG:=kG.keep hb1
  have hB1:=hA.trans (hb1.mono hA.size)
  clear hA hb1 HG
  obtain ⟨iG,-,zG⟩:=kG.cell
  have c0:w1.cell? ⟨w.heap.size,2,none⟩=some (.slice ai g.ins.length ci):=iG 2
  have c1:w1.cell? ⟨w.heap.size,3,none⟩=some (.slice ao g.outs.length co):=iG 3
  have hwz:=hB1.size
  go_wp2_with fail
  refine region_acts (C:=Exc (NoT) _) 4 [0,1,2,3,4,5,6,7] (by kernel_rfl) (by kernel_rfl) (Exc.grows _ _) (Exc.refl _ _) ?_
  iterate 2 (apply x_st rfl rfl rfl;(focus intro u hc' hf';go_simp <;> rfl);intro K hK;go_simp;apply hK;clear hK K)
  refine x_make rfl rfl rfl (Exc.grows _ _) (Exc.refl _ _) (fun b=>.slice (some ⟨b,0,none⟩) 1 1) (fun K hK=>?_)
  apply Exists.intro
  refine ⟨fun w' hw'=>?_,fun bA x1 hx1 hb1 hbo1 hN1 hn1=>?_⟩
  ·obtain ⟨hc',hf'⟩:=hw'.cell
   try simp only [World.size_drew] at hc' hf'
   go_simp
   rfl
  go_simp
  refine hK _ _ _ ?_
  clear hK K
  iterate 2 (apply x_st rfl rfl rfl;(focus intro u hc' hf';go_simp <;> rfl);intro K hK;go_simp;apply hK;clear hK K)
  refine x_make rfl rfl rfl (Exc.grows _ _) (hx1) (fun b=>.slice (some ⟨b,0,none⟩) 1 1) (fun K hK=>?_)
  apply Exists.intro
  refine ⟨fun w' hw'=>?_,fun bB x2 hx2 hb2 hbo2 hN2 hn2=>?_⟩
  ·obtain ⟨hc',hf'⟩:=hw'.cell
   try simp only [World.size_drew] at hc' hf'
   go_simp
   rfl
  go_simp
  refine hK _ _ _ ?_
  clear hK K
  iterate 2 (apply x_st rfl rfl rfl;(focus intro u hc' hf';go_simp <;> rfl);intro K hK;go_simp;apply hK;clear hK K)
  refine x_nil ?_
  have hb12:Below w1.heap.size w1 x2:=(Below.refl _ _).drew.trans (hx2.toBelow.mono (by simp))
  replace kG:=kG.keep hb12
  have hwx:=hb2.size
  simp only [World.size_drew] at hN1 hN2
  have r3:LsR w x2 (.slice (some ⟨bA,0,none⟩) 1 1) [(g.ins,.slice ai g.ins.length ci)]:=LsR.made ((hb2.block bA (made_cell hbo1).2.2).trans hbo1) (by omega) hR.inn
  have r4:LsR w x2 (.slice (some ⟨bB,0,none⟩) 1 1) [(g.outs,.slice ao g.outs.length co)]:=LsR.made hbo2 (by omega) hR.out
  have hap:Apart (.slice (some ⟨bA,0,none⟩) 1 1) (.slice (some ⟨bB,0,none⟩) 1 1):=fun k h1 h2=>by simp [Value.ownBlock] at h1 h2;omega
  have hB2:=hB1.trans (hb12.mono hwz)
  clear iG zG c0 c1 hbo1 hbo2 hN1 hN2 hn1 hn2 hx1 hx2 hb1 hb2 hb12 hB1 hwz
  obtain ⟨iG,-,zG⟩:=kG.cell
  go_wp2_with fail
  clear iG zG
  obtain ⟨pe,cpe,he,hce,hat⟩:=hR.ed
  simp only [Value.slice.injEq] at he
  obtain ⟨rfl,-,rfl⟩:=he
  obtain ⟨hel,hol,hdl⟩:=grB_lens HGR.out
  have HL:=Lib.hid (And.intro hol hdl)
  clear hol hdl
  go_loopw [3,4,19] (fun v3 v4 i wr=>∃ (k:Nat) (xs ys:List (List Int × Value)),k≤g.edges.length∧i=.int .i64 k∧LsR w wr v3 xs∧LsR w wr v4 ys∧Apart v3 v4∧Below w.heap.size w wr∧Bk wr w.heap.size 53 #[.int .i64 g.wires,.slice ae g.edges.length ce,.slice ai g.ins.length ci,.slice ao g.outs.length co] ∧
   Hid (xs.map Prod.fst=g.ins :: (g.edges.take k).map EdI.outs∧ys.map Prod.fst=g.outs :: (g.edges.take k).map EdI.ins∧xs.length=k+1∧ys.length=k+1)) (fun _ _ i _=>g.edges.length - (intOf i).toNat)
  case atStart=>exact ⟨0,_,_,Nat.zero_le _,rfl,r3,r4,hap,hB2,kG,⟨by simp,by simp,rfl,rfl⟩⟩
  case round =>
   clear r3 r4 hap hB2 kG
   obtain ⟨k,xs,ys,hk,rfl,r3,r4,hap,hbw,kG,HF⟩:=hrel
   by_cases hlt:k<g.edges.length
   ·obtain ⟨b,o,rfl,_,hnd⟩:=hat k hlt
    obtain ⟨c0,c1,y1,y2,c2,c3,hi,ho⟩:=hnd.keep hbw
    obtain ⟨d0,d1,z1,z2,d2,d3,hi0,ho0⟩:=hnd
    obtain rfl:y1=z1:=by have:=cell_keep hbw d2;rw [c2] at this;exact Option.some.inj this
    obtain rfl:y2=z2:=by have:=cell_keep hbw d3;rw [c3] at this;exact Option.some.inj this
    obtain ⟨a1,q1,rfl⟩:=hi0.slice
    obtain ⟨a2,q2,rfl⟩:=ho0.slice
    have bz:=cell_lt c0
    have hwr:=hbw.size
    have hxl:xs.length≤1000:=by have:=HF.out.2.2.1;omega
    have hyl:ys.length≤1000:=by have:=HF.out.2.2.2;omega
    have hT1:(g.edges.take (k+1)).map EdI.outs=(g.edges.take k).map EdI.outs ++ [g.edges[k].outs]:=by rw [List.take_succ_eq_append_getElem hlt,List.map_append];rfl
    have hT2:(g.edges.take (k+1)).map EdI.ins=(g.edges.take k).map EdI.ins ++ [g.edges[k].ins]:=by rw [List.take_succ_eq_append_getElem hlt,List.map_append];rfl
    have HT:=Lib.hid (And.intro hT1 hT2)
    obtain ⟨s3,t3,rfl⟩:=(r3.at hbw).slice
    obtain ⟨s4,t4,rfl⟩:=(r4.at hbw).slice
    rw [List.length_map] at r3 r4 hap ⊢
    rw [List.length_map] at hap ⊢
    have kE:=Bk.new wr 189 #[.int .i64 g.edges[k].kind,.int .i64 g.edges[k].value,.slice a1 g.edges[k].ins.length q1,.slice a2 g.edges[k].outs.length q2]
    have hA1:=alloc_below wr (.cells #[.int .i64 g.edges[k].kind,.int .i64 g.edges[k].value,.slice a1 g.edges[k].ins.length q1,.slice a2 g.edges[k].outs.length q2] 189)
    clear hat hT1 hT2 d0 d1 d2 d3 hi ho
    have kL1:((wr.alloc (.cells #[.int .i64 g.edges[k].kind,.int .i64 g.edges[k].value,.slice a1 g.edges[k].ins.length q1,.slice a2 g.edges[k].outs.length q2] 189)).alloc (.cells #[.slice a2 g.edges[k].outs.length q2] 40)).heap[wr.heap.size+1]?=some (.cells #[.slice a2 g.edges[k].outs.length q2] 40):=by
     have:=Bk.new (wr.alloc (.cells #[.int .i64 g.edges[k].kind,.int .i64 g.edges[k].value,.slice a1 g.edges[k].ins.length q1,.slice a2 g.edges[k].outs.length q2] 189)) 40 #[.slice a2 g.edges[k].outs.length q2]
     unfold Bk at this
     simpa using this
    have hA2:=alloc_below (wr.alloc (.cells #[.int .i64 g.edges[k].kind,.int .i64 g.edges[k].value,.slice a1 g.edges[k].ins.length q1,.slice a2 g.edges[k].outs.length q2] 189)) (.cells #[.slice a2 g.edges[k].outs.length q2] 40)
    have kE2:=kE.keep hA2
    have kG2:=(kG.keep hA1).keep hA2
    have r32:=(r3.keep hA1).keep hA2
    have r42:=(r4.keep hA1).keep hA2
    have hb2:=(hbw.trans (hA1.mono hwr)).trans (hA2.mono (by simp;omega))
    generalize hW2:((wr.alloc (.cells #[.int .i64 g.edges[k].kind,.int .i64 g.edges[k].value,.slice a1 g.edges[k].ins.length q1,.slice a2 g.edges[k].outs.length q2] 189)).alloc (.cells #[.slice a2 g.edges[k].outs.length q2] 40))=W2 at kL1 kE2 kG2 r32 r42 hb2
    have hW2z:=hb2.size
    have own3:∀ j,(Value.slice s3 xs.length t3).ownBlock=some j → j ≠ wr.heap.size∧j ≠ w.heap.size:=fun j hj=>⟨fun e=>by have:=(World.ownsRow.lt r3.row j hj).2;omega,fun e=>row_blk_ne r3.row kG (by decide) (e ▸ hj)⟩
    have own4:∀ j,(Value.slice s4 ys.length t4).ownBlock=some j → j ≠ wr.heap.size∧j ≠ w.heap.size:=fun j hj=>⟨fun e=>by have:=(World.ownsRow.lt r4.row j hj).2;omega,fun e=>row_blk_ne r4.row kG (by decide) (e ▸ hj)⟩
    have low4:∀ j,(Value.slice s4 ys.length t4).ownBlock=some j → w.heap.size≤j∧j<wr.heap.size:=fun j hj=>World.ownsRow.lt r4.row j hj
    have hwW:wr.heap.size≤W2.heap.size:=by rw [← hW2];simp;omega
    have low3:∀ j,(Value.slice s3 xs.length t3).ownBlock=some j → w.heap.size≤j:=fun j hj=>(World.ownsRow.lt r3.row j hj).1
    clear hA1 hA2 kE r3 r4 kG
    go_wp2_with (first|(at_builtin;(try rw [hW2]);refine ls_append rfl (.tmp 23) (.tmp 26) rfl _ xs rfl r32 _ g.edges[k].outs ho0 _ rfl kL1 hW2z hxl ?_;intro v5 w5 r5 g5 n5;have kE5:=Bk.grown g5 kE2 (fun e=>(own3 _ e).1 rfl);have kG5:=Bk.grown g5 kG2 (fun e=>(own3 _ e).2 rfl);have r45:=r42.grown g5 (fun j h1 h2=>hap j h2 h1);have hb5:=hb2.grown g5 hW2z low3;obtain ⟨iE,-,zE⟩:=kE5.cell;have hw5z:=hb5.size)|(at_builtin;refine ls_append rfl (.tmp 28) (.tmp 31) rfl _ ys rfl (r45.keep (alloc_below _ _)) _ g.edges[k].ins hi0 _ rfl (Bk.new _ _ _) (by simp;omega) hyl ?_;intro v6 w6 r6 g6 n6))
    have hA5:=alloc_below w5 (.cells #[.slice a1 g.edges[k].ins.length q1] 40)
    have hcr:∀ j,v5.ownBlock=some j → (Value.slice s4 ys.length t4).ownBlock ≠ some j:=fun j h1 h2=>by
     rcases n5 with e|e
     ·exact hap j (e ▸ h1) h2
     ·rw [e] at h1
      have:=Option.some.inj h1
      have:=(low4 j h2).2
      omega
    have r56:=(r5.keep hA5).grown g6 hcr
    have kG6:=Bk.grown g6 (kG5.keep hA5) (fun e=>(own4 _ e).2 rfl)
    have hb6:=(hb5.trans (hA5.mono hw5z)).grown g6 (by simp;omega) (fun j hj=>(low4 j hj).1)
    have hap6:Apart v5 v6:=fun j h1 h2=>by
     rcases n6 with e|e
     ·exact hcr j h1 (e ▸ h2)
     ·rw [e] at h2
      have h3:=Option.some.inj h2
      have h4:=(World.ownsRow.lt r5.row j h1).2
      simp only [World.size_alloc] at h3
      omega
    have hH:Hid ((xs ++ [(g.edges[k].outs,Value.slice a2 g.edges[k].outs.length q2)]).map Prod.fst=g.ins :: (g.edges.take (k+1)).map EdI.outs∧(ys ++ [(g.edges[k].ins,Value.slice a1 g.edges[k].ins.length q1)]).map Prod.fst=g.outs :: (g.edges.take (k+1)).map EdI.ins∧(xs ++ [(g.edges[k].outs,Value.slice a2 g.edges[k].outs.length q2)]).length=k+1+1∧(ys ++ [(g.edges[k].ins,Value.slice a1 g.edges[k].ins.length q1)]).length=k+1+1) :=
     ⟨by rw [List.map_append,HF.out.1,HT.out.1];rfl,by rw [List.map_append,HF.out.2.1,HT.out.2];rfl,by rw [List.length_append,HF.out.2.2.1];rfl,by rw [List.length_append,HF.out.2.2.2];rfl⟩
    refine ⟨⟨k+1,_,_,by omega,by push_cast;rfl,r56,r6,hap6,hb6,kG6,hH⟩,?_⟩
    simp [intOf];omega
   ·obtain rfl:k=g.edges.length:=by omega
    rw [List.take_length] at HF
    have l3:=r3.at hbw
    have l4:=r4.at hbw
    rw [HF.out.1] at l3
    rw [HF.out.2.1] at l4
    obtain ⟨s3,t3,rfl⟩:=l3.slice
    obtain ⟨s4,t4,rfl⟩:=l4.slice
    have f3:(g.ins :: g.edges.map EdI.outs).flatten=g.origs:=flat_cons_map _ _ _
    have f4:(g.outs :: g.edges.map EdI.ins).flatten=g.dests:=flat_cons_map _ _ _
    have h3:=occursOnce_any _ _ g.wires wr l3 (by simp;omega) (by rw [f3];have:=HL.out;omega)
    have h4:=fun (u:World) (hu:Below wr.heap.size wr u)=>occursOnce_any _ _ g.wires u (l4.keep hu) (by simp;omega) (by rw [f4];have:=HL.out;omega)
    rw [f3] at h3
    rw [f4] at h4
    have g3:(g.ins :: g.edges.map EdI.outs).length=g.edges.length+1:=by simp
    have g4:(g.outs :: g.edges.map EdI.ins).length=g.edges.length+1:=by simp
    rw [g3] at h3
    simp only [g4] at h4
    rw [g3,g4]
    clear g3 g4
    have H4:=Lib.hid h4
    clear h4 l3 l4 r3 r4 hap hat f3 f4
    obtain ⟨iG,-,zG⟩:=kG.cell
    cases hp:permB g.origs g.wires with
    | false =>
     rw [hp] at h3
     have H3:=Lib.hid h3
     have hm:monoB g=false:=by unfold monoB;rw [hp];rfl
     have HM:=Lib.hid hm
     clear h3 hp hm
     go_wp2_with fail
     refine H3.out.mono ?_
     rintro r w3 ⟨rfl,hb3⟩
     go_wp2
     go_ret
     exact ⟨by rw [HM.out];rfl,hbw.trans (hb3.mono hbw.size)⟩
    | true =>
     rw [hp] at h3
     have H3:=Lib.hid h3
     have hm:monoB g=permB g.dests g.wires:=by unfold monoB;rw [hp];rfl
     have HM:=Lib.hid hm
     clear h3 hp hm
     go_wp2_with fail
     refine H3.out.mono ?_
     rintro r w3 ⟨rfl,hb3⟩
     replace kG:=kG.keep hb3
     clear iG zG
     obtain ⟨iG,-,zG⟩:=kG.cell
     go_wp2_with fail
     refine (H4.out w3 hb3).mono ?_
     rintro r w4 ⟨rfl,hb4⟩
     go_wp2
     go_ret
     exact ⟨by rw [HM.out];rfl,(hbw.trans (hb3.mono hbw.size)).trans (hb4.mono (hbw.trans (hb3.mono hbw.size)).size)⟩
end Go.Proofs.YtbljmfcifljkaaaGreatDoor
/-
  All graphs of a session in one row, the program's. Own work.
-/
namespace Go.Proofs.YtbljmfcifljkaaaGreatDoor
open Go.RowKit
set_option maxRecDepth 100000
set_option maxHeartbeats 4000000
abbrev GrV:=GrI × Value × Value × Value
def GrsVals (w:World) (v:Value) (xs:List GrV):Prop :=
 SlAt 4 v xs.length (fun i b o=>∃ h:i<xs.length,∀ j,j<4 → w.cell? ⟨b,o+j,none⟩=(grCells xs[i])[j]?)∧∀ x ∈ xs,GrR w x.2.1 x.2.2.1 x.2.2.2 x.1
theorem GrsVals.src {w:World} {v:Value} {xs:List GrV} (h:GrsVals w v xs):SrcAt w 4 v xs.length (xs.flatMap grCells) :=
 slat_src (by omega) grCells_len h.1 fun i b o hi ⟨_,h⟩=>h
theorem GrsAt.vals {w:World} {v:Value} {L:List GrI} (h:GrsAt w v L):∃ xs:List GrV,xs.map Prod.fst=L∧GrsVals w v xs:=by
 obtain ⟨a,cap,rfl,hc,hat⟩:=h
 have key:∀ (n:Nat),n≤L.length → ∃ xs:List GrV,xs.map Prod.fst=L.take n∧(∀ i (hi:i<xs.length),∃ b o,a=some ⟨b,o,none⟩∧∀ j,j<4 → w.cell? ⟨b,o+i * 4+j,none⟩=(grCells xs[i])[j]?)∧∀ x ∈ xs,GrR w x.2.1 x.2.2.1 x.2.2.2 x.1:=by
  intro n
  induction n with
  | zero=>intro _;exact ⟨[],by simp,by simp,by simp⟩
  | succ n ih =>
   intro hn
   obtain ⟨xs,e1,e2,e3⟩:=ih (by omega)
   have hlen:xs.length=n:=by have:=congrArg List.length e1;simp at this;omega
   obtain ⟨b,o,h1,hi,c0,ve,vi,vo,c1,c2,c3,hu⟩:=hat n (by omega)
   refine ⟨xs ++ [(L[n],ve,vi,vo)],?_,?_,?_⟩
   ·rw [List.map_append,e1,List.take_succ_eq_append_getElem (by omega)];rfl
   ·intro i hi'
    by_cases hin:i<xs.length
    ·obtain ⟨b',o',g1,g2⟩:=e2 i hin
     refine ⟨b',o',g1,fun j hj=>?_⟩
     rw [List.getElem_append_left hin];exact g2 j hj
    ·have:i=n:=by simp at hi';omega
     subst this
     refine ⟨b,o,h1,fun j hj=>?_⟩
     rw [List.getElem_append_right (by omega)]
     simp only [hlen,Nat.sub_self,List.getElem_cons_zero]
     match j,hj with
     | 0,_=>exact c0
     | 1,_=>exact c1
     | 2,_=>exact c2
     | 3,_=>exact c3
   ·intro x hx
    rcases List.mem_append.1 hx with hx|hx
    ·exact e3 x hx
    ·simp at hx;subst hx;exact hu
 obtain ⟨xs,e1,e2,e3⟩:=key L.length (Nat.le_refl _)
 rw [List.take_length] at e1
 have hlen:xs.length=L.length:=by have:=congrArg List.length e1;simpa using this
 refine ⟨xs,e1,⟨a,cap,by rw [hlen],by omega,fun i hi=>?_⟩,e3⟩
 obtain ⟨b,o,g1,g2⟩:=e2 i hi
 exact ⟨b,o,g1,hi,g2⟩
theorem GrsVals.keep {w w':World} (hb:Below w.heap.size w w') {v:Value} {xs:List GrV} (h:GrsVals w v xs):GrsVals w' v xs :=
 ⟨SlAt.mono h.1 fun i b o ⟨hi,hr⟩=>⟨hi,fun j hj=>by
  have h1:=hr j hj
  have h2:∃ u,(grCells xs[i])[j]?=some u:=⟨_,List.getElem?_eq_getElem (by rw [grCells_len];exact hj)⟩
  obtain ⟨u,hu⟩:=h2
  rw [hu] at h1 ⊢
  exact cell_keep hb h1⟩,fun x hx=>(h.2 x hx).keep hb⟩
theorem grCells_one {w:World} {xs:List GrV} (h:∀ x ∈ xs,GrR w x.2.1 x.2.2.1 x.2.2.2 x.1):∀ u ∈ xs.flatMap grCells,u.oneCell'=true:=by
 intro u hu
 obtain ⟨x,hx,hd⟩:=List.mem_flatMap.1 hu
 obtain ⟨⟨ae,ce,e1⟩,⟨ai,ci,e2⟩,ao,co,e3⟩:=(h x hx).slices
 simp only [grCells,List.mem_cons,List.not_mem_nil,or_false] at hd
 rcases hd with rfl|rfl|rfl|rfl
 ·rfl
 ·rw [e1];rfl
 ·rw [e2];rfl
 ·rw [e3];rfl
structure GsR (w0 w:World) (v:Value) (xs:List GrV):Prop where
 row:w.ownsRow w0.heap.size 53 4 v xs.length (xs.flatMap grCells)
 els:∀ x ∈ xs,GrR w0 x.2.1 x.2.2.1 x.2.2.2 x.1
theorem GsR.keep {w0 w w':World} {v:Value} {xs:List GrV} (hb:Below w.heap.size w w') (h:GsR w0 w v xs):GsR w0 w' v xs:=⟨owns_keep hb h.row,h.els⟩
theorem GsR.at {w0 w:World} {v:Value} {xs:List GrV} (h:GsR w0 w v xs) (hb:Below w0.heap.size w0 w):GrsAt w v (xs.map Prod.fst):=by
 have ho:w.ownsRow w0.heap.size 53 4 v (xs.map Prod.fst).length (xs.flatMap grCells):=by rw [List.length_map];exact h.row
 refine owns_slat ho _ fun i b o hi' hc=>⟨hi',?_⟩
 have hi:i<xs.length:=by simpa using hi'
 have g:∀ j,j<4 → w.cell? ⟨b,o+j,none⟩=(grCells xs[i])[j]?:=fun j hj=>(hc j hj).trans (flat_get grCells_len xs i j hi hj)
 rw [List.getElem_map]
 exact ⟨g 0 (by omega),xs[i].2.1,xs[i].2.2.1,xs[i].2.2.2,g 1 (by omega),g 2 (by omega),g 3 (by omega),(h.els _ (List.getElem_mem hi)).keep hb⟩
theorem gs_append {w0 w:World} {ops:Array Oper} {rest:List Oper} {o:Oper} {a:Act} {Q:Exit → Act → World → Prop} (hgd:o.guard=none) (s x:Operand)
  (ho:o.op=.call { callee:=.builtin .append,args:=#[s,x],argTypes:=#[50,50] })
  (v:Value) (xs:List GrV) (hs:a.eval s=v) (hrow:GsR w0 w v xs) (u:Value) (ys:List GrV) (hx:a.eval x=u) (hy:GrsVals w u ys) (hy0:∀ x ∈ ys,GrR w0 x.2.1 x.2.2.1 x.2.2.2 x.1) (hw0:w0.heap.size≤w.heap.size) (hl:xs.length+ys.length≤3000000)
  (H:∀ v' w',GsR w0 w' v' (xs ++ ys) → w.grownBy w' v.ownBlock → (v'.ownBlock=v.ownBlock∨v'.ownBlock=some w.heap.size) → wpList Tryz.prog ops Q rest (a.put o.dst v') w'):wpList Tryz.prog ops Q (o :: rest) a w:=by
 obtain ⟨i0,hi,hz0,hz1,hz2⟩:=info_parts infoGraph
 refine wpList_append_src hgd s x 50 ho w0.heap.size 53 i0 _ 4 80 Tryz.underlying50 hi hz0 hz1 hz2 rfl (by decide) v xs.length _ hs hrow.row u ys.length _ hx hy.src (grCells_one hy0) (by unfold maxLen;omega) (by omega) hw0 ?_
 intro v' w' h1 h2 h3
 refine H v' w' ⟨?_,?_⟩ h2 h3
 ·rw [List.length_append,List.flatMap_append]
  exact h1
 ·intro y hy
  rcases List.mem_append.1 hy with hy|hy
  ·exact hrow.els y hy
  ·exact hy0 y hy
end Go.Proofs.YtbljmfcifljkaaaGreatDoor
/-
  All graphs of a session, the program's graphs. Own work.
-/
namespace Go.Proofs.YtbljmfcifljkaaaGreatDoor
open Go.RowKit
set_option maxRecDepth 100000
set_option maxHeartbeats 4000000
def SnI.graphs (s:SnI):List GrI:=s.now :: s.goal :: (s.past ++ s.future)
theorem graphs_any (s:SnI) (vp ne ni no vf ge gi go:Value) (w:World) (h:SnR w vp ne ni no vf ge gi go s) (hp:s.past.length≤30) (hf:s.future.length≤30) :
  Calls Tryz.prog 122 #[snV s vp ne ni no vf ge gi go] w fun e w'=>∃ v',e=.returned v'∧GrsAt w' v' s.graphs∧Below w.heap.size w w':=by
 obtain ⟨⟨a1,c1,rfl⟩,⟨⟨a2,c2,rfl⟩,⟨a3,c3,rfl⟩,a4,c4,rfl⟩,⟨a5,c5,rfl⟩,⟨a6,c6,rfl⟩,⟨a7,c7,rfl⟩,a8,c8,rfl⟩:=h.slices
 unfold snV
 obtain ⟨ps,hps,hpv⟩:=h.past.vals
 obtain ⟨fs,hfs,hfv⟩:=h.future.vals
 have hpl:ps.length=s.past.length:=by rw [← hps,List.length_map]
 have hfl:fs.length=s.future.length:=by rw [← hfs,List.length_map]
 have hA1:=alloc_below w (.cells #[.int .i64 s.p,.int .i64 s.k,.int .i64 s.l,.slice a1 s.past.length c1,.int .i64 s.now.wires,.slice a2 s.now.edges.length c2,.slice a3 s.now.ins.length c3,.slice a4 s.now.outs.length c4,.slice a5 s.future.length c5,.int .i64 s.goal.wires,.slice a6 s.goal.edges.length c6,.slice a7 s.goal.ins.length c7,.slice a8 s.goal.outs.length c8] 55)
 have hA2:=alloc_below (w.alloc (.cells #[.int .i64 s.p,.int .i64 s.k,.int .i64 s.l,.slice a1 s.past.length c1,.int .i64 s.now.wires,.slice a2 s.now.edges.length c2,.slice a3 s.now.ins.length c3,.slice a4 s.now.outs.length c4,.slice a5 s.future.length c5,.int .i64 s.goal.wires,.slice a6 s.goal.edges.length c6,.slice a7 s.goal.ins.length c7,.slice a8 s.goal.outs.length c8] 55)) (.cells #[.int .i64 s.now.wires,.slice a2 s.now.edges.length c2,.slice a3 s.now.ins.length c3,.slice a4 s.now.outs.length c4,.int .i64 s.goal.wires,.slice a6 s.goal.edges.length c6,.slice a7 s.goal.ins.length c7,.slice a8 s.goal.outs.length c8] 53)
 have kI:=(Bk.new w 55 #[.int .i64 s.p,.int .i64 s.k,.int .i64 s.l,.slice a1 s.past.length c1,.int .i64 s.now.wires,.slice a2 s.now.edges.length c2,.slice a3 s.now.ins.length c3,.slice a4 s.now.outs.length c4,.slice a5 s.future.length c5,.int .i64 s.goal.wires,.slice a6 s.goal.edges.length c6,.slice a7 s.goal.ins.length c7,.slice a8 s.goal.outs.length c8]).keep hA2
 have kN:=Bk.new (w.alloc (.cells #[.int .i64 s.p,.int .i64 s.k,.int .i64 s.l,.slice a1 s.past.length c1,.int .i64 s.now.wires,.slice a2 s.now.edges.length c2,.slice a3 s.now.ins.length c3,.slice a4 s.now.outs.length c4,.slice a5 s.future.length c5,.int .i64 s.goal.wires,.slice a6 s.goal.edges.length c6,.slice a7 s.goal.ins.length c7,.slice a8 s.goal.outs.length c8] 55)) 53 #[.int .i64 s.now.wires,.slice a2 s.now.edges.length c2,.slice a3 s.now.ins.length c3,.slice a4 s.now.outs.length c4,.int .i64 s.goal.wires,.slice a6 s.goal.edges.length c6,.slice a7 s.goal.ins.length c7,.slice a8 s.goal.outs.length c8]
 have hB2:=hA1.trans (hA2.mono hA1.size)
 simp only [World.size_alloc] at kN
 have hzz:w.heap.size<((w.alloc (.cells #[.int .i64 s.p,.int .i64 s.k,.int .i64 s.l,.slice a1 s.past.length c1,.int .i64 s.now.wires,.slice a2 s.now.edges.length c2,.slice a3 s.now.ins.length c3,.slice a4 s.now.outs.length c4,.slice a5 s.future.length c5,.int .i64 s.goal.wires,.slice a6 s.goal.edges.length c6,.slice a7 s.goal.ins.length c7,.slice a8 s.goal.outs.length c8] 55)).alloc (.cells #[.int .i64 s.now.wires,.slice a2 s.now.edges.length c2,.slice a3 s.now.ins.length c3,.slice a4 s.now.outs.length c4,.int .i64 s.goal.wires,.slice a6 s.goal.edges.length c6,.slice a7 s.goal.ins.length c7,.slice a8 s.goal.outs.length c8] 53)).heap.size:=by simp;omega
 generalize hW2:((w.alloc (.cells #[.int .i64 s.p,.int .i64 s.k,.int .i64 s.l,.slice a1 s.past.length c1,.int .i64 s.now.wires,.slice a2 s.now.edges.length c2,.slice a3 s.now.ins.length c3,.slice a4 s.now.outs.length c4,.slice a5 s.future.length c5,.int .i64 s.goal.wires,.slice a6 s.goal.edges.length c6,.slice a7 s.goal.ins.length c7,.slice a8 s.goal.outs.length c8] 55)).alloc (.cells #[.int .i64 s.now.wires,.slice a2 s.now.edges.length c2,.slice a3 s.now.ins.length c3,.slice a4 s.now.outs.length c4,.int .i64 s.goal.wires,.slice a6 s.goal.edges.length c6,.slice a7 s.goal.ins.length c7,.slice a8 s.goal.outs.length c8] 53))=W2 at *
 obtain ⟨x0,hx0⟩:∃ x0:List GrV,x0=[(s.now,.slice a2 s.now.edges.length c2,.slice a3 s.now.ins.length c3,.slice a4 s.now.outs.length c4),(s.goal,.slice a6 s.goal.edges.length c6,.slice a7 s.goal.ins.length c7,.slice a8 s.goal.outs.length c8)]:=⟨_,rfl⟩
 have r0:GsR w W2 (.slice (some ⟨w.heap.size+1,0,none⟩) 2 2) x0:=by
  rw [hx0]
  refine ⟨⟨rfl,.inr ⟨w.heap.size+1,2,#[.int .i64 s.now.wires,.slice a2 s.now.edges.length c2,.slice a3 s.now.ins.length c3,.slice a4 s.now.outs.length c4,.int .i64 s.goal.wires,.slice a6 s.goal.edges.length c6,.slice a7 s.goal.ins.length c7,.slice a8 s.goal.outs.length c8],rfl,by omega,kN,Nat.le_refl _,by unfold maxLen;omega,rfl,rfl⟩⟩,fun x hx=>?_⟩
  simp only [List.mem_cons,List.not_mem_nil,or_false] at hx
  rcases hx with rfl|rfl
  ·exact h.now
  ·exact h.goal
 have hx2:x0.length=2:=by rw [hx0];rfl
 have hp2:=hpv.keep hB2
 have HX:=Lib.hid (And.intro hx0 (And.intro hps hfs))
 have HL:=Lib.hid (And.intro hx2 (And.intro (show ps.length≤30 by rw [hpl];exact hp) (show fs.length≤30 by rw [hfl];exact hf)))
 clear hx0 hps hfs hA1 hA2 kN hpl hfl hx2
 obtain ⟨iI0,-,zI0⟩:=kI.cell
 have hn1:x0.length+ps.length≤3000000:=by have:=HL.out;omega
 have hn2:(x0 ++ ps).length+fs.length≤3000000:=by have:=HL.out;rw [List.length_append];omega
 have hw2:w.heap.size≤W2.heap.size:=by omega
 have hne:(Value.slice (some ⟨w.heap.size+1,0,none⟩) 2 2).ownBlock ≠ some w.heap.size:=by simp [Value.ownBlock]
 have hlo:∀ j,(Value.slice (some ⟨w.heap.size+1,0,none⟩) 2 2).ownBlock=some j → w.heap.size≤j:=fun j hj=>by simp [Value.ownBlock] at hj;omega
 have HN:=Lib.hid (And.intro hn1 (And.intro hn2 (And.intro hw2 (And.intro hne hlo))))
 clear hn1 hn2 hne hlo
 go_enter Tryz.func122,Tryz.ntmps122
 go_wp2_with (first|(at_builtin;(try rw [hW2]);refine gs_append rfl (.tmp 8) (.tmp 10) rfl _ x0 rfl r0 _ ps rfl hp2 hpv.2 HN.out.2.2.1 HN.out.1 ?_;intro v5 w5 r5 g5 n5;have kI5:=Bk.grown g5 kI HN.out.2.2.2.1;have hB5:=hB2.grown g5 HN.out.2.2.1 HN.out.2.2.2.2;have hz5:=hB5.size;obtain ⟨iI,-,zI⟩:=kI5.cell)|(at_builtin;refine gs_append rfl (.tmp 12) (.tmp 14) rfl _ (x0 ++ ps) rfl r5 _ fs rfl (hfv.keep hB5) hfv.2 hz5 HN.out.2.1 ?_;intro v6 w6 r6 g6 n6))
 have hfin:((x0 ++ ps) ++ fs).map Prod.fst=s.graphs:=by
  rw [List.map_append,List.map_append,HX.out.2.1,HX.out.2.2,HX.out.1]
  simp [SnI.graphs]
 have hB6:Below w.heap.size w w6:=hB5.grown g6 hz5 (fun j hj=>(World.ownsRow.lt r5.row j hj).1)
 have hat:=r6.at hB6
 rw [hfin] at hat
 go_ret
 exact ⟨_,rfl,hat,hB6⟩
end Go.Proofs.YtbljmfcifljkaaaGreatDoor
/-
  The program's AxiomsOf. Own work.
-/
namespace Go.Proofs.YtbljmfcifljkaaaGreatDoor
open Go.RowKit
set_option maxRecDepth 100000
set_option maxHeartbeats 4000000
theorem two_el (p k l:Int):(primeB p && [k,l].all (elB p))=twoB p k l:=by
 unfold twoB
 congr 1
 simp only [List.all_cons,List.all_nil,Bool.and_true,elB,inB]
 have h:∀ x:Int,decide (x<p)=decide (x≤p - 1):=fun x=>by
  by_cases hx:x<p
  ·rw [decide_eq_true hx,decide_eq_true (by omega:x≤p - 1)]
  ·rw [decide_eq_false hx,decide_eq_false (by omega:¬ x≤p - 1)]
 rw [h,h]
theorem twoB_in {p k l:Int} (h:twoB p k l=true):(2≤p∧p≤97)∧(0≤k∧k<p)∧(0≤l∧l<p):=by
 unfold twoB at h
 simp only [Bool.and_eq_true,inB,decide_eq_true_eq] at h
 obtain ⟨h1,h2,h3⟩:=h
 have:=primeB_le h1
 exact ⟨by omega,by omega,by omega⟩
end Go.Proofs.YtbljmfcifljkaaaGreatDoor
/-
  Valid sessions, the program's. Own work.
-/
namespace Go.Proofs.YtbljmfcifljkaaaGreatDoor
open Go.RowKit
set_option maxRecDepth 100000
set_option maxHeartbeats 4000000
def gsB (p:Int) (ni no:Nat) (g:GrI):Bool:=(grB g && overB p g) && (monoB g && (decide (g.ins.length=ni) && decide (g.outs.length=no)))
def snB (s:SnI):Bool:=twoB s.p s.k s.l && (decide (s.past.length+s.future.length≤30) && s.graphs.all (gsB s.p s.now.ins.length s.now.outs.length))
theorem SnOk.graphs {s:SnI} (h:SnOk s):∀ g ∈ s.graphs,GrOk g:=by
 intro g hg
 unfold SnI.graphs at hg
 simp only [List.mem_cons,List.mem_append] at hg
 rcases hg with rfl|rfl|hg|hg
 ·exact h.now
 ·exact h.goal
 ·exact h.past g hg
 ·exact h.future g hg
theorem snB_two {s:SnI} (h:twoB s.p s.k s.l=false):snB s=false:=by unfold snB;rw [h];rfl
theorem snB_len {s:SnI} (h:¬ s.past.length+s.future.length≤30):snB s=false:=by unfold snB;rw [decide_eq_false h];simp
theorem snB_gr {s:SnI} {k:Nat} (hk:k<s.graphs.length) (h:gsB s.p s.now.ins.length s.now.outs.length s.graphs[k]=false):snB s=false:=by
 unfold snB
 have:s.graphs.all (gsB s.p s.now.ins.length s.now.outs.length)=false:=List.all_eq_false.2 ⟨_,List.getElem_mem hk,by simp [h]⟩
 rw [this];simp
theorem snB_gr2 {s:SnI} {k:Nat} {g:GrI} {P:Prop} (h:∃ h:k<s.graphs.length,s.graphs[k]'h=g∧P) (hf:gsB s.p s.now.ins.length s.now.outs.length g=false):snB s=false:=by
 obtain ⟨h1,h2,_⟩:=h
 exact snB_gr h1 (by rw [h2];exact hf)
theorem snB_yes {s:SnI} (h1:twoB s.p s.k s.l=true) (h2:s.past.length+s.future.length≤30) (h3:∀ j,∀ h:j<s.graphs.length,gsB s.p s.now.ins.length s.now.outs.length (s.graphs[j]'h)=true):snB s=true:=by
 unfold snB
 rw [h1,decide_eq_true h2]
 exact List.all_eq_true.2 fun e he=>by obtain ⟨j,hj,rfl⟩:=List.mem_iff_getElem.1 he;exact h3 j hj
theorem isSession_any (s:SnI) (vp ne ni no vf ge gi go:Value) (w:World) (ht:PrimeTab w) (h:SnR w vp ne ni no vf ge gi go s) (hok:SnOk s) :
  Calls Tryz.prog 59 #[snV s vp ne ni no vf ge gi go] w (FlP (snB s) w):=by
 have hgr:=fun (u:World) (hu:Below w.heap.size w u)=>graphs_any s vp ne ni no vf ge gi go u (h.keep hu)
 unfold snV at hgr
 obtain ⟨⟨a1,c1,rfl⟩,⟨⟨a2,c2,rfl⟩,⟨a3,c3,rfl⟩,a4,c4,rfl⟩,⟨a5,c5,rfl⟩,⟨a6,c6,rfl⟩,⟨a7,c7,rfl⟩,a8,c8,rfl⟩:=h.slices
 unfold snV
 have hA1:=alloc_below w (.cells #[.int .i64 s.p,.int .i64 s.k,.int .i64 s.l,.slice a1 s.past.length c1,.int .i64 s.now.wires,.slice a2 s.now.edges.length c2,.slice a3 s.now.ins.length c3,.slice a4 s.now.outs.length c4,.slice a5 s.future.length c5,.int .i64 s.goal.wires,.slice a6 s.goal.edges.length c6,.slice a7 s.goal.ins.length c7,.slice a8 s.goal.outs.length c8] 55)
 have hA2:=alloc_below (w.alloc (.cells #[.int .i64 s.p,.int .i64 s.k,.int .i64 s.l,.slice a1 s.past.length c1,.int .i64 s.now.wires,.slice a2 s.now.edges.length c2,.slice a3 s.now.ins.length c3,.slice a4 s.now.outs.length c4,.slice a5 s.future.length c5,.int .i64 s.goal.wires,.slice a6 s.goal.edges.length c6,.slice a7 s.goal.ins.length c7,.slice a8 s.goal.outs.length c8] 55)) (.cells #[.int .i64 s.k,.int .i64 s.l] 3)
 have hB2:=hA1.trans (hA2.mono hA1.size)
 have kI:=(Bk.new w 55 #[.int .i64 s.p,.int .i64 s.k,.int .i64 s.l,.slice a1 s.past.length c1,.int .i64 s.now.wires,.slice a2 s.now.edges.length c2,.slice a3 s.now.ins.length c3,.slice a4 s.now.outs.length c4,.slice a5 s.future.length c5,.int .i64 s.goal.wires,.slice a6 s.goal.edges.length c6,.slice a7 s.goal.ins.length c7,.slice a8 s.goal.outs.length c8]).keep hA2
 have kN:=Bk.new (w.alloc (.cells #[.int .i64 s.p,.int .i64 s.k,.int .i64 s.l,.slice a1 s.past.length c1,.int .i64 s.now.wires,.slice a2 s.now.edges.length c2,.slice a3 s.now.ins.length c3,.slice a4 s.now.outs.length c4,.slice a5 s.future.length c5,.int .i64 s.goal.wires,.slice a6 s.goal.edges.length c6,.slice a7 s.goal.ins.length c7,.slice a8 s.goal.outs.length c8] 55)) 3 #[.int .i64 s.k,.int .i64 s.l]
 simp only [World.size_alloc] at kN
 have hI:IntsAt ((w.alloc (.cells #[.int .i64 s.p,.int .i64 s.k,.int .i64 s.l,.slice a1 s.past.length c1,.int .i64 s.now.wires,.slice a2 s.now.edges.length c2,.slice a3 s.now.ins.length c3,.slice a4 s.now.outs.length c4,.slice a5 s.future.length c5,.int .i64 s.goal.wires,.slice a6 s.goal.edges.length c6,.slice a7 s.goal.ins.length c7,.slice a8 s.goal.outs.length c8] 55)).alloc (.cells #[.int .i64 s.k,.int .i64 s.l] 3)) (.slice (some ⟨w.heap.size+1,0,none⟩) 2 2) [s.k,s.l]:=by
  refine ⟨_,_,rfl,Nat.le_refl _,fun i hi=>⟨_,_,rfl,hi,?_⟩⟩
  match i,hi with
  | 0,_=>exact kN.cell.1 0
  | 1,_=>exact kN.cell.1 1
 have hE:=areElements_any s.p (.slice (some ⟨w.heap.size+1,0,none⟩) 2 2) [s.k,s.l] _ (ht.keep hB2) hI (by simp)
 rw [two_el] at hE
 clear hA1 hA2 kN hI
 cases htw:twoB s.p s.k s.l with
 | false =>
  have hS:=snB_two htw
  rw [htw] at hE
  have HE:=Lib.hid hE
  have HS:=Lib.hid hS
  clear hE hS htw hgr kI
  go_enter Tryz.func59,Tryz.ntmps59
  go_wp2_with (go_at_call 40;refine HE.out.mono ?_;rintro r w3 ⟨rfl,hb3⟩)
  go_ret
  exact ⟨by rw [HS.out];rfl,hB2.trans (hb3.mono hB2.size)⟩
 | true =>
  rw [htw] at hE
  have HE:=Lib.hid hE
  have HT:=Lib.hid htw
  have hnp:=hok.np
  have hnf:=hok.nf
  clear hE htw
  have w1:IntKind.i64.wrap ((s.past.length:Int)+s.future.length)=(s.past.length:Int)+s.future.length:=IntWalk.i64_in _ (by omega)
  by_cases hl:s.past.length+s.future.length≤30
  ·have n1:¬ (30:Int)<s.past.length:=by omega
   have n2:¬ (30:Int)<(s.past.length:Int)+s.future.length:=by omega
   have HG:=Lib.hid (fun (u:World) (hu:Below w.heap.size w u)=>hgr u hu (by omega) (by omega))
   have HOK:=Lib.hid hok.graphs
   have HL:=Lib.hid hl
   have hpr:primeB s.p=true:=by have:=HT.out;unfold twoB at this;rw [Bool.and_eq_true] at this;exact this.1
   have HPR:=Lib.hid hpr
   clear hgr hl hpr
   obtain ⟨L,hL⟩:∃ L,s.graphs=L:=⟨_,rfl⟩
   have hLn:L.length≤32:=by rw [← hL];unfold SnI.graphs;simp;have:=HL.out;omega
   have HLL:=Lib.hid hL
   rw [hL] at HG HOK
   go_enter Tryz.func59,Tryz.ntmps59
   go_wp2_with fail
   generalize ((w.alloc (.cells #[.int .i64 s.p,.int .i64 s.k,.int .i64 s.l,.slice a1 s.past.length c1,.int .i64 s.now.wires,.slice a2 s.now.edges.length c2,.slice a3 s.now.ins.length c3,.slice a4 s.now.outs.length c4,.slice a5 s.future.length c5,.int .i64 s.goal.wires,.slice a6 s.goal.edges.length c6,.slice a7 s.goal.ins.length c7,.slice a8 s.goal.outs.length c8] 55)).alloc (.cells #[.int .i64 s.k,.int .i64 s.l] 3))=u0 at *
   refine HE.out.mono ?_
   rintro r w3 ⟨rfl,hb3⟩
   replace kI:=kI.keep hb3
   have hB3:=hB2.trans (hb3.mono hB2.size)
   obtain ⟨iI,-,zI⟩:=kI.cell
   clear hb3 hB2 HE hL
   go_wp2_with fail
   refine (HG.out _ hB3).mono ?_
   rintro r w4 ⟨v4,rfl,hat4,hb4⟩
   clear iI zI
   replace kI:=kI.keep hb4
   have hB4:=hB3.trans (hb4.mono hB3.size)
   obtain ⟨a9,c9,rfl,hc9,hat⟩:=hat4
   clear hb4 hB3 n1 n2 w1
   go_wp2_with fail
   go_loopw [33] (fun i wr=>∃ k:Nat,k≤L.length∧i=.int .i64 k∧Below w4.heap.size w4 wr∧∀ j,∀ h:j<L.length,j<k → gsB s.p s.now.ins.length s.now.outs.length (L[j]'h)=true) (fun i _=>L.length - (intOf i).toNat)
   case atStart=>exact ⟨0,Nat.zero_le _,rfl,Below.refl _ _,fun j h1 h2=>by omega⟩
   case round =>
    obtain ⟨k,hk,rfl,hbr,hall⟩:=hrel
    have HALL:=Lib.hid hall
    clear hall
    by_cases hlt:k<L.length
    ·obtain ⟨b,o,rfl,_,hnd⟩:=hat k hlt
     obtain ⟨c0,ve,vi,vo,c1,c2,c3,hg⟩:=hnd.keep hbr
     obtain ⟨⟨be,de,rfl⟩,⟨bi,di,rfl⟩,bo,dO,rfl⟩:=hg.slices
     have hok1:=HOK.out _ (List.getElem_mem hlt)
     have hkL:k<s.graphs.length:=by rw [HLL.out];exact hlt
     have hgL:s.graphs[k]=L[k]:=by simp only [HLL.out]
     obtain ⟨g,hgg⟩:∃ g,L[k]=g:=⟨_,rfl⟩
     rw [hgg] at c0 c1 c2 c3 hg hok1 hgL
     have bz:=cell_lt c0
     have hbw:=hB4.trans (hbr.mono hB4.size)
     have hA:=alloc_below wr (.cells #[.int .i64 g.wires,.slice be g.edges.length de,.slice bi g.ins.length di,.slice bo g.outs.length dO] 53)
     have kE:=Bk.new wr 53 #[.int .i64 g.wires,.slice be g.edges.length de,.slice bi g.ins.length di,.slice bo g.outs.length dO]
     have kI2:=(kI.keep hbr).keep hA
     have hbA:=hbw.trans (hA.mono hbw.size)
     have hO:=isGraphOver_any s.p _ _ _ g _ (ht.keep hbA) (hg.keep hA) hok1
     rw [HPR.out,Bool.true_and] at hO
     have hM:=fun (u:World) (hu:Below wr.heap.size wr u)=>isMonogamous_any _ _ _ g u (hg.keep hu) hok1
     have HGL:=Lib.hid (show ∃ h:k<s.graphs.length,s.graphs[k]'h=g∧L[k]'hlt=g from ⟨hkL,hgL,hgg⟩)
     clear hat hnd hkL hgL hgg
     obtain ⟨iI,-,zI⟩:=kI2.cell
     cases hgo:(grB g && overB s.p g) with
     | false =>
      rw [hgo] at hO
      have HO:=Lib.hid hO
      have hS:=snB_gr2 HGL.out (by unfold gsB;rw [hgo];rfl)
      have HS:=Lib.hid hS
      clear hO hM hgo hS
      go_wp2_with (go_at_call 123;refine HO.out.mono ?_;rintro r w5 ⟨rfl,hb5⟩)
      go_ret
      exact ⟨by rw [HS.out];rfl,hbA.trans (hb5.mono hbA.size)⟩
     | true =>
      rw [hgo] at hO
      have HO:=Lib.hid hO
      have hgr1:grB g=true:=by rw [Bool.and_eq_true] at hgo;exact hgo.1
      simp only [hgr1,Bool.true_and] at hM
      clear hO
      go_wp2_with fail
      generalize (wr.alloc (.cells #[.int .i64 g.wires,.slice be g.edges.length de,.slice bi g.ins.length di,.slice bo g.outs.length dO] 53))=u1 at *
      refine HO.out.mono ?_
      rintro r w5 ⟨rfl,hb5⟩
      have hr5:=hA.trans (hb5.mono hA.size)
      have hb5w:=hbA.trans (hb5.mono hbA.size)
      replace kE:=kE.keep hb5
      replace kI2:=kI2.keep hb5
      clear iI zI
      obtain ⟨iI,-,zI⟩:=kI2.cell
      obtain ⟨iE,-,zE⟩:=kE.cell
      cases hm:monoB g with
      | false =>
       simp only [hm] at hM
       have HM:=Lib.hid hM
       have hS:=snB_gr2 HGL.out (by unfold gsB;rw [hgo,hm];rfl)
       have HS:=Lib.hid hS
       clear hM hgo hS hm hgr1 HO
       go_wp2_with (go_at_call 124;refine (HM.out _ hr5).mono ?_;rintro r w6 ⟨rfl,hb6⟩)
       go_ret
       exact ⟨by rw [HS.out];rfl,hb5w.trans (hb6.mono hb5w.size)⟩
      | true =>
       simp only [hm] at hM
       have HM:=Lib.hid hM
       clear hM HO
       go_wp2_with fail
       refine (HM.out _ hr5).mono ?_
       rintro r w6 ⟨rfl,hb6⟩
       have hb6w:=hb5w.trans (hb6.mono hb5w.size)
       replace kE:=kE.keep hb6
       replace kI2:=kI2.keep hb6
       clear iI zI iE zE
       obtain ⟨iI,-,zI⟩:=kI2.cell
       obtain ⟨iE,-,zE⟩:=kE.cell
       by_cases hi1:g.ins.length=s.now.ins.length
       ·have q1:((g.ins.length:Int) != s.now.ins.length)=false:=by simp [hi1]
        by_cases ho1:g.outs.length=s.now.outs.length
        ·have q2:((g.outs.length:Int) != s.now.outs.length)=false:=by simp [ho1]
         have hS:gsB s.p s.now.ins.length s.now.outs.length g=true:=by unfold gsB;rw [hgo,hm,decide_eq_true hi1,decide_eq_true ho1];rfl
         have HS:=Lib.hid hS
         have hb46:Below w4.heap.size w4 w6:=hbr.trans ((hr5.trans (hb6.mono hr5.size)).mono hbr.size)
         clear hS hgo hm hi1 ho1 hgr1
         go_wp2_with fail
         go_roundw
         case rel=>exact ⟨k+1,by omega,by go_num,hb46,fun j h1 h2=>by
          rcases Nat.lt_or_ge j k with h|h
          ·exact HALL.out j h1 h
          ·obtain rfl:j=k:=by omega
           obtain ⟨_,_,hh⟩:=HGL.out
           rw [hh];exact HS.out⟩
         case measure=>simp [intOf];omega
        ·have q2:((g.outs.length:Int) != s.now.outs.length)=true:=by simp;omega
         have hS:=snB_gr2 HGL.out (by unfold gsB;rw [decide_eq_false ho1];simp)
         have HS:=Lib.hid hS
         clear hS hgo hm hi1 ho1 hgr1
         go_wp2
         go_ret
         exact ⟨by rw [HS.out];rfl,hb6w⟩
       ·have q1:((g.ins.length:Int) != s.now.ins.length)=true:=by simp;omega
        have hS:=snB_gr2 HGL.out (by unfold gsB;rw [decide_eq_false hi1];simp)
        have HS:=Lib.hid hS
        clear hS hgo hm hi1 hgr1
        go_wp2
        go_ret
        exact ⟨by rw [HS.out];rfl,hb6w⟩
    ·obtain rfl:k=L.length:=by omega
     have hS:=snB_yes HT.out HL.out (fun j hj=>by simp only [HLL.out];exact HALL.out j (by rw [← HLL.out];exact hj) (by rw [← HLL.out];exact hj))
     have HS:=Lib.hid hS
     have hbw:=hB4.trans (hbr.mono hB4.size)
     clear hS hat
     go_wp2
     go_ret
     exact ⟨by rw [HS.out];rfl,hbw⟩
  ·have hS:=snB_len hl
   have HS:=Lib.hid hS
   have hl2:(30:Int)<(s.past.length:Int)+s.future.length:=by omega
   by_cases hl3:(30:Int)<s.past.length
   all_goals
    clear hS hl hgr
    go_enter Tryz.func59,Tryz.ntmps59
    go_wp2_with fail
    have hI5:=kI
    generalize ((w.alloc (.cells #[.int .i64 s.p,.int .i64 s.k,.int .i64 s.l,.slice a1 s.past.length c1,.int .i64 s.now.wires,.slice a2 s.now.edges.length c2,.slice a3 s.now.ins.length c3,.slice a4 s.now.outs.length c4,.slice a5 s.future.length c5,.int .i64 s.goal.wires,.slice a6 s.goal.edges.length c6,.slice a7 s.goal.ins.length c7,.slice a8 s.goal.outs.length c8] 55)).alloc (.cells #[.int .i64 s.k,.int .i64 s.l] 3))=u0 at *
    refine HE.out.mono ?_
    rintro r w3 ⟨rfl,hb3⟩
    replace hI5:=hI5.keep hb3
    obtain ⟨iI,-,zI⟩:=hI5.cell
    go_wp2
    go_ret
    exact ⟨by rw [HS.out];rfl,hB2.trans (hb3.mono hB2.size)⟩
end Go.Proofs.YtbljmfcifljkaaaGreatDoor
