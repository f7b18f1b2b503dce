/-
  Valid graphs, the program's tests. Own work.
-/
import Derived.Test.YtbljmfcifljkaaaGreatDoorYSA
import Derived.Test.YtbljmfcifljkaaaGreatDoorYD
import Derived.Test.YtbljmfcifljkaaaGreatDoorYB
import Derived.Test.YtbljmfcifljkaaaGreatDoorYF
import Derived.Test.YtbljmfcifljkaaaGreatDoorYAI
import Derived.Test.YtbljmfcifljkaaaGreatDoorYFL
import Derived.Test.YtbljmfcifljkaaaGreatDoorYTM
set_option linter.all false
set_option maxRecDepth 100000
set_option maxHeartbeats 8000000
namespace Go.Proofs.YtbljmfcifljkaaaGreatDoor
open Go.RowKit
set_option maxRecDepth 100000
set_option maxHeartbeats 4000000
theorem isEdge_any (e:EdI) (vi vo:Value) (w:World) (hi:IntsAt w vi e.ins) (ho:IntsAt w vo e.outs) :
  Calls Tryz.prog 254 #[.agg #[.int .i64 e.kind,.int .i64 e.value,vi,vo]] w (FlP (edB e) w):=by
 obtain ⟨a1,q1,rfl⟩:=hi.slice
 obtain ⟨a2,q2,rfl⟩:=ho.slice
 have hA:=alloc_below w (.cells #[.int .i64 e.kind,.int .i64 e.value,.slice a1 e.ins.length q1,.slice a2 e.outs.length q2] 189)
 cases hk:inB e.kind 3 14 with
 | false =>
  have HK:=Lib.hid hk
  clear hk
  go_enter Tryz.func254,Tryz.ntmps254
  go_wp2_with (go_at_call 242;refine (isGenerator_any _ _).mono ?_;rintro r w2 ⟨rfl,rfl⟩;rw [HK.out])
  go_ret
  exact ⟨by unfold edB;rw [HK.out];rfl,hA⟩
 | true =>
  cases hv:genValB e.kind e.value with
  | false =>
   have HK:=Lib.hid (And.intro hk hv)
   clear hk hv
   go_enter Tryz.func254,Tryz.ntmps254
   go_wp2_with (first|(go_at_call 242;refine (isGenerator_any _ _).mono ?_;rintro r w2 ⟨rfl,rfl⟩;rw [HK.out.1])|(go_at_call 244;refine (isGeneratorValue_any _ _ _).mono ?_;rintro r w2 ⟨rfl,rfl⟩;rw [HK.out.2]))
   go_ret
   exact ⟨by unfold edB;rw [HK.out.1,HK.out.2];rfl,hA⟩
  | true =>
   have hk2:3≤e.kind∧e.kind≤14:=by simpa [inB] using hk
   have hcs:∃ b:Bool,decide (kindW e.kind=((e.ins.length:Int),(e.outs.length:Int)))=b:=⟨_,rfl⟩
   obtain ⟨b,hb⟩:=hcs
   have hif:(if (kindW e.kind).1=(e.ins.length:Int) then (if (kindW e.kind).2=(e.outs.length:Int) then true else false) else false)=b:=by
    rw [← hb]
    by_cases h1:(kindW e.kind).1=(e.ins.length:Int)
    ·by_cases h2:(kindW e.kind).2=(e.outs.length:Int)
     ·rw [if_pos h1,if_pos h2];symm;simp [Prod.ext_iff,h1,h2]
     ·rw [if_pos h1,if_neg h2];symm;simp [Prod.ext_iff,h2]
    ·rw [if_neg h1];symm;simp [Prod.ext_iff,h1]
   have HK:=Lib.hid (And.intro hk (And.intro hv hb))
   have HK2:=Lib.hid hk2
   clear hk hv hk2 hb
   by_cases h1:(kindW e.kind).1=(e.ins.length:Int)
   all_goals by_cases h2:(kindW e.kind).2=(e.outs.length:Int)
   all_goals
    simp only [h1,h2,if_true,if_false] at hif
    have HIF:=Lib.hid hif
    clear hif
    go_enter Tryz.func254,Tryz.ntmps254
    go_wp2_with (first|(go_at_call 242;refine (isGenerator_any _ _).mono ?_;rintro r w2 ⟨rfl,rfl⟩;rw [HK.out.1])|(go_at_call 244;refine (isGeneratorValue_any _ _ _).mono ?_;rintro r w2 ⟨rfl,rfl⟩;rw [HK.out.2.1]))
    have kE:=Bk.new w 189 #[.int .i64 e.kind,.int .i64 e.value,.slice a1 e.ins.length q1,.slice a2 e.outs.length q2]
    generalize (w.alloc (.cells #[.int .i64 e.kind,.int .i64 e.value,.slice a1 e.ins.length q1,.slice a2 e.outs.length q2] 189))=u0 at *
    obtain ⟨iE,fE,zE⟩:=kE.cell
    have c0:=iE 0
    have c2:=iE 2
    have c3:=iE 3
    simp at c0 c2 c3
    clear iE fE
    refine region_acts (C:=Exc (NoT) _) 4 [0,1,2,3,4,5,6,7,8,9,10,11] (by kernel_rfl) (by kernel_rfl) (Exc.grows _ _) (Exc.refl _ _) ?_
    iterate 2 (apply x_st rfl rfl rfl;(focus intro u hc' hf';go_simp <;> rfl);intro K hK;go_simp;apply hK;clear hK K)
    refine x_call rfl rfl rfl (Exc.grows _ _) (Exc.refl _ _) 243 (fun K hK=>?_);apply Exists.intro;refine ⟨fun w' hw'=>?_,fun wa hwa hbwa=>?_⟩;(focus go_simp;rfl);refine (generatorWires_any _ _ HK2.out.1 HK2.out.2).mono ?_;rintro e w3 ⟨rfl,hb3⟩;refine ⟨_,rfl,hb3,fun hx=>?_⟩;go_simp;apply hK;clear hK K
    iterate 9 (apply x_st rfl rfl rfl;(focus intro u hc' hf';go_simp <;> rfl);intro K hK;go_simp;apply hK;clear hK K)
    refine x_nil ?_
    go_wp2
    go_ret
    exact ⟨by unfold edB;rw [HK.out.1,HK.out.2.1,HK.out.2.2,← HIF.out];rfl,hA.drew.trans (hx.toBelow.mono (by simp;omega))⟩
end Go.Proofs.YtbljmfcifljkaaaGreatDoor
/-
  Valid graphs: the program's isGraph and what it calls. Own work.
-/
namespace Go.Proofs.YtbljmfcifljkaaaGreatDoor
open Go.RowKit
set_option maxRecDepth 100000
set_option maxHeartbeats 4000000
def bCell (b:Bool):List Value:=[.bool b]
theorem bCell_len (b:Bool):(bCell b).length=1:=rfl
def seenL (n:Nat) (vis:List Int):List Bool:=(List.range n).map fun i:Nat=>vis.contains (i:Int)
theorem seenL_len (n:Nat) (vis:List Int):(seenL n vis).length=n:=by simp [seenL]
theorem seenL_get (n:Nat) (vis:List Int) (i:Nat) (h:i<(seenL n vis).length):(seenL n vis)[i]=vis.contains (i:Int):=by simp [seenL]
theorem seenL_nil (n:Nat):seenL n []=List.replicate n false:=by
 apply List.ext_getElem
 ·simp [seenL]
 ·intro i h1 h2;simp [seenL]
theorem seenL_out (n:Nat) (vis:List Int) (z:Int) (hz:¬ (0≤z∧z<n)):seenL n (vis ++ [z])=seenL n vis:=by
 unfold seenL
 apply List.map_congr_left
 intro i hi
 have hi':i<n:=List.mem_range.1 hi
 have:¬ (i:Int)=z:=fun e=>hz ⟨by omega,by omega⟩
 rw [Bool.eq_iff_iff];simp [this]
theorem seenL_in (n:Nat) (vis:List Int) (k:Nat) (hk:k<n):seenL n (vis ++ [(k:Int)])=(seenL n vis).set k true:=by
 apply List.ext_getElem
 ·simp [seenL]
 ·intro i h1 h2
  rw [List.getElem_set]
  simp only [seenL,List.getElem_map,List.getElem_range]
  by_cases e:k=i
  ·subst e;simp
  ·rw [if_neg e]
   have:¬ (i:Int)=(k:Int):=fun h=>e (by omega)
   rw [Bool.eq_iff_iff];simp [this]
def cntL (n:Nat) (vis:List Int):Nat:=(seenL n vis).count true
theorem count_set (l:List Bool) (k:Nat) (hk:k<l.length):(l.set k true).count true=l.count true+if l[k]=true then 0 else 1:=by
 induction l generalizing k with
 | nil=>simp at hk
 | cons b l ih =>
  cases k with
  | zero=>cases b <;> simp
  | succ k =>
   have:=ih k (by simpa using hk)
   rw [List.set_cons_succ,List.count_cons,List.count_cons,this,List.getElem_cons_succ]
   omega
theorem cntL_le (n:Nat) (vis:List Int):cntL n vis≤n:=by
 have:=List.count_le_length (a:=true) (l:=seenL n vis)
 rw [seenL_len] at this
 exact this
theorem count_full:∀ (l:List Bool),l.count true=l.length ↔ ∀ b ∈ l,b=true
 | []=>by simp
 | b :: l=>by
  have h1:=count_full l
  have h2:=List.count_le_length (a:=true) (l:=l)
  cases b
  ·simp;omega
  ·simp only [List.count_cons_self,List.length_cons,List.mem_cons,forall_eq_or_imp,true_and]
   rw [← h1];omega
theorem cntL_all (n:Nat) (vis:List Int):decide ((cntL n vis:Int)=n)=(List.range n).all fun w:Nat=>vis.contains (w:Int):=by
 rw [Bool.eq_iff_iff,decide_eq_true_eq,List.all_eq_true]
 have:=count_full (seenL n vis)
 rw [seenL_len] at this
 constructor
 ·intro h x hx
  exact this.1 (by unfold cntL at h;omega) _ (by unfold seenL;exact List.mem_map_of_mem hx)
 ·intro h
  have h2:=this.2 (fun b hb=>by
   obtain ⟨x,hx,rfl⟩:=List.mem_map.1 hb
   exact h x hx)
  unfold cntL
  omega
theorem inG_snoc (n:Int) (l:List Int) (z:Int):inG n (l ++ [z])=(inG n l && inB z 0 (n - 1)):=by simp [inG]
structure SnSt (w0 w:World) (gb kb sb cb sg:Nat) (n:Nat) (vis:List Int):Prop where
 bel:Below w0.heap.size w0 w
 lo:w0.heap.size≤kb∧w0.heap.size≤cb∧w0.heap.size≤sg
 ne:kb ≠ cb∧kb ≠ sg∧cb ≠ sg
 gne:gb ≠ kb∧gb ≠ cb∧gb ≠ sg
 sne:sb ≠ kb∧sb ≠ cb∧sb ≠ sg
 g:w.cell? ⟨gb,0,none⟩=some (.int .i64 (n:Int))
 good:Bk w kb 4 #[.bool (inG n vis)]
 seen:w.cell? ⟨sb,0,none⟩=some (.slice (some ⟨sg,0,none⟩) n n)
 row:w.ownsRow w0.heap.size 4 1 (.slice (some ⟨sg,0,none⟩) n n) n ((seenL n vis).flatMap bCell)
 cnt:Bk w cb 3 #[.int .i64 (cntL n vis:Int)]
theorem SnSt.keep {w0 w w':World} {gb kb sb cb sg n:Nat} {vis:List Int} (h:SnSt w0 w gb kb sb cb sg n vis) (hb:Below w.heap.size w w'):SnSt w0 w' gb kb sb cb sg n vis :=
 ⟨h.bel.trans (hb.mono h.bel.size),h.lo,h.ne,h.gne,h.sne,cell_keep hb h.g,h.good.keep hb,cell_keep hb h.seen,owns_keep hb h.row,h.cnt.keep hb⟩
theorem SnSt.out {w0 w:World} {gb kb sb cb sg n:Nat} {vis:List Int} (h:SnSt w0 w gb kb sb cb sg n vis) (z:Int) (hz:inB z 0 ((n:Int) - 1)=false):SnSt w0 (w.setCell ⟨kb,0,none⟩ (.bool false)) gb kb sb cb sg n (vis ++ [z]):=by
 have hz2:¬ (0≤z∧z<n):=by intro ⟨h1,h2⟩;simp [inB] at hz;omega
 obtain ⟨h1,h2,h3,h4,h5,h6,h7,h8,h9,h10⟩:=h
 refine ⟨h1.setCell h2.1 _,h2,h3,h4,h5,?_,?_,?_,?_,?_⟩
 ·rw [World.cell?_setCell_other _ ⟨kb,0,none⟩ ⟨gb,0,none⟩ _ (by simp <;> omega)];exact h6
 ·rw [inG_snoc,hz,Bool.and_false];exact h7.set 0 _
 ·rw [World.cell?_setCell_other _ ⟨kb,0,none⟩ ⟨sb,0,none⟩ _ (by simp <;> omega)];exact h8
 ·rw [seenL_out n vis z hz2];exact owns_other h9 _ _ (by simp [Value.ownBlock];exact fun e=>h3.2.1 e.symm)
 ·unfold cntL;rw [seenL_out n vis z hz2];exact h10.other _ _ (fun e=>h3.1 e.symm)
theorem SnSt.again {w0 w:World} {gb kb sb cb sg n:Nat} {vis:List Int} (h:SnSt w0 w gb kb sb cb sg n vis) (k:Nat) (hk:k<n) (hs:vis.contains (k:Int)=true):SnSt w0 w gb kb sb cb sg n (vis ++ [(k:Int)]):=by
 have hin:inB (k:Int) 0 ((n:Int) - 1)=true:=by simp [inB];omega
 have hsee:seenL n (vis ++ [(k:Int)])=seenL n vis:=by
  rw [seenL_in n vis k hk]
  apply List.ext_getElem
  ·simp
  ·intro i h1 h2
   rw [List.getElem_set]
   split
   ·rename_i e;subst e;rw [seenL_get];exact hs.symm
   ·rfl
 obtain ⟨h1,h2,h3,h4,h5,h6,h7,h8,h9,h10⟩:=h
 refine ⟨h1,h2,h3,h4,h5,h6,?_,h8,?_,?_⟩
 ·rw [inG_snoc,hin,Bool.and_true];exact h7
 ·rw [hsee];exact h9
 ·unfold cntL;rw [hsee];exact h10
theorem SnSt.new {w0 w:World} {gb kb sb cb sg n:Nat} {vis:List Int} (h:SnSt w0 w gb kb sb cb sg n vis) (k:Nat) (hk:k<n) (hs:vis.contains (k:Int)=false) :
  SnSt w0 ((w.setCell ⟨sg,k,none⟩ (.bool true)).setCell ⟨cb,0,none⟩ (.int .i64 ((cntL n vis:Int)+1))) gb kb sb cb sg n (vis ++ [(k:Int)]):=by
 have hin:inB (k:Int) 0 ((n:Int) - 1)=true:=by simp [inB];omega
 have hc:cntL n (vis ++ [(k:Int)])=cntL n vis+1:=by
  unfold cntL
  rw [seenL_in n vis k hk,count_set _ k (by rw [seenL_len];exact hk),seenL_get,hs]
  simp
 obtain ⟨h1,h2,h3,h4,h5,h6,h7,h8,h9,h10⟩:=h
 refine ⟨(h1.setCell h2.2.2 _).setCell h2.2.1 _,h2,h3,h4,h5,?_,?_,?_,?_,?_⟩
 ·rw [World.cell?_setCell_other _ ⟨cb,0,none⟩ ⟨gb,0,none⟩ _ (by simp <;> omega),World.cell?_setCell_other _ ⟨sg,k,none⟩ ⟨gb,0,none⟩ _ (by simp <;> omega)];exact h6
 ·rw [inG_snoc,hin,Bool.and_true];exact (h7.other _ _ h3.2.1).other _ _ h3.1
 ·rw [World.cell?_setCell_other _ ⟨cb,0,none⟩ ⟨sb,0,none⟩ _ (by simp <;> omega),World.cell?_setCell_other _ ⟨sg,k,none⟩ ⟨sb,0,none⟩ _ (by simp <;> omega)];exact h8
 ·rw [seenL_in n vis k hk]
  refine owns_other ?_ _ _ (by simp [Value.ownBlock];exact fun e=>h3.2.2 e.symm)
  exact owns_set bCell_len h9 k 0 k (by rw [seenL_len];exact hk) (by omega) (by omega) (.bool true) true rfl
 ·rw [hc]
  have:=(h10.other ⟨sg,k,none⟩ (.bool true) h3.2.2).set 0 (.int .i64 ((cntL n vis:Int)+1))
  exact this
def TSn (kb sg cb:Nat):Nat → Prop:=fun j=>j=kb∨j=sg∨j=cb
theorem visit_any (v:Value) (zs:List Int) (w0 w:World) (gb kb sb cb sg n:Nat) (vis:List Int) (hv:IntsAt w0 v zs) (hn:n≤100) (hz:zs.length≤1048576) (h:SnSt w0 w gb kb sb cb sg n vis) :
  Calls Tryz.prog 256 #[v,.pointer (some ⟨gb,0,none⟩),.pointer (some ⟨kb,0,none⟩),.pointer (some ⟨sb,0,none⟩),.pointer (some ⟨cb,0,none⟩)] w fun e w'=>e=.returned (.tuple #[])∧SnSt w0 w' gb kb sb cb sg n (vis ++ zs)∧Exc (TSn kb sg cb) w w':=by
 obtain ⟨a,cap,rfl,hc,hat⟩:=hv
 go_enter Tryz.func256,Tryz.ntmps256
 go_wp2
 go_loopw [10] (fun i wr=>∃ k:Nat,k≤zs.length∧i=.int .i64 k∧SnSt w0 wr gb kb sb cb sg n (vis ++ zs.take k)∧Exc (TSn kb sg cb) w wr) (fun i _=>zs.length - (intOf i).toNat)
 case atStart=>exact ⟨0,Nat.zero_le _,rfl,by simpa using h,Exc.refl _ _⟩
 case round =>
  obtain ⟨k,hk,rfl,hst,hex⟩:=hrel
  clear h
  by_cases hlt:k<zs.length
  ·obtain ⟨b,o,rfl,_,c0⟩:=hat k hlt
   rw [Nat.mul_one] at c0
   replace c0:=cell_keep hst.bel c0
   obtain ⟨z,hzz⟩:∃ z,zs[k]=z:=⟨_,rfl⟩
   have hT1:vis ++ zs.take (k+1)=(vis ++ zs.take k) ++ [z]:=by rw [List.take_succ_eq_append_getElem hlt,hzz,List.append_assoc]
   rw [hzz] at c0
   have HT:=Lib.hid hT1
   obtain ⟨iK,fK,zK⟩:=hst.good.cell
   obtain ⟨iC,fC,zC⟩:=hst.cnt.cell
   have cg:=hst.g
   have zg:=cell_lt cg
   have cs:=hst.seen
   have zs':=cell_lt cs
   have bz:=cell_lt c0
   have k0:=iK 0
   have d0:=iC 0
   simp at k0 d0
   clear hat hzz hT1 iK iC
   have w1:IntKind.i64.wrap ((n:Int) - 1)=(n:Int) - 1:=IntWalk.i64_in _ (by omega)
   cases hin:inB z 0 ((n:Int) - 1) with
   | false =>
    have HIN:=Lib.hid hin
    have hst2:=hst.out z hin
    clear hin
    go_wp2_with (go_at_call 128;refine (within_any _ _ _ _).mono ?_;rintro r w2 ⟨rfl,rfl⟩;rw [HIN.out])
    go_roundw
    case rel=>exact ⟨k+1,by omega,by go_num,by rw [HT.out];exact hst2,exc_set hex (.inr (.inl rfl)) _⟩
    case measure=>simp [intOf];omega
   | true =>
    have hz2:0≤z∧z<n:=by simp [inB] at hin;omega
    obtain ⟨m,rfl⟩:∃ m:Nat,z=m:=⟨z.toNat,by omega⟩
    have hmn:m<n:=by omega
    have HIN:=Lib.hid hin
    clear hin hz2
    have hrow:=hst.row
    have s0:=owns_cell bCell_len hrow m 0 (by rw [seenL_len];exact hmn) (by omega)
    rw [seenL_get] at s0
    have f0:=hrow.frozenAt m
    simp only [bCell,Nat.mul_one,Nat.add_zero,List.getElem?_cons_zero] at s0
    have zg2:=cell_lt s0
    have hcl:=cntL_le n (vis ++ zs.take k)
    have w2:IntKind.i64.wrap ((cntL n (vis ++ zs.take k):Int)+1)=(cntL n (vis ++ zs.take k):Int)+1:=IntWalk.i64_in _ (by omega)
    cases hs:(vis ++ zs.take k).contains (m:Int) with
    | true =>
     rw [hs] at s0
     have hst2:=hst.again m hmn hs
     clear hs hrow
     go_wp2_with (go_at_call 128;refine (within_any _ _ _ _).mono ?_;rintro r w2 ⟨rfl,rfl⟩;rw [HIN.out])
     go_roundw
     case rel=>exact ⟨k+1,by omega,by go_num,by rw [HT.out];exact hst2,hex⟩
     case measure=>simp [intOf];omega
    | false =>
     rw [hs] at s0
     have hst2:=hst.new m hmn hs
     have hne:=hst.ne
     have hcs:¬ cb=sg:=hne.2.2
     have hsc:¬ sg=cb:=fun e=>hne.2.2 e.symm
     clear hs hrow hne
     go_wp2_with (go_at_call 128;refine (within_any _ _ _ _).mono ?_;rintro r w2 ⟨rfl,rfl⟩;rw [HIN.out])
     go_roundw
     case rel=>exact ⟨k+1,by omega,by go_num,by rw [HT.out];exact hst2,exc_set (exc_set hex (.inr (.inr (.inl rfl))) _) (.inr (.inr (.inr rfl))) _⟩
     case measure=>simp [intOf];omega
  ·obtain rfl:k=zs.length:=by omega
   rw [List.take_length] at hst
   go_wp2
   exact bodyPost_end (v:=.tuple #[]) (by simp [results,Tryz.results256,go_sem]) rfl ⟨rfl,hst,hex⟩
end Go.Proofs.YtbljmfcifljkaaaGreatDoor
/-
  Valid graphs: the program's lists and isGraph. Own work.
-/
namespace Go.Proofs.YtbljmfcifljkaaaGreatDoor
open Go.RowKit
set_option maxRecDepth 100000
set_option maxHeartbeats 4000000
theorem Exc.keepT {T:Nat → Prop} {w0 w w':World} (hE:Exc T w w') (hT:∀ j,T j → w0.heap.size≤j) (hb:Below w0.heap.size w0 w):Below w0.heap.size w0 w' :=
 hb.trans ⟨hE.os,hE.tape,hE.output,hE.size,fun k hk=>hE.block k (Nat.lt_of_lt_of_le hk hb.size) (fun ht=>by have:=hT k ht;omega)⟩
theorem SnSt.notT {w0 w:World} {gb kb sb cb sg n:Nat} {vis:List Int} (h:SnSt w0 w gb kb sb cb sg n vis) (b:Nat) (hb:w.heap.size≤b):¬ TSn kb sg cb b:=by
 have h1:=h.good.lt
 have h2:=h.cnt.lt
 have h3:=(World.ownsRow.lt h.row sg (by simp [Value.ownBlock])).2
 rintro (rfl|rfl|rfl) <;> omega
theorem lists_any (z:Int) (ve vi vo:Value) (g:GrI) (w0 w:World) (gb kb sb cb sg n:Nat) (hR:GrR w0 ve vi vo g) (hok:GrOk g) (hn:n≤100) (h:SnSt w0 w gb kb sb cb sg n []) :
  Calls Tryz.prog 255 #[.agg #[.int .i64 z,ve,vi,vo],(.func (.func 256) #[] #[.pointer (some ⟨gb,0,none⟩),.pointer (some ⟨kb,0,none⟩),.pointer (some ⟨sb,0,none⟩),.pointer (some ⟨cb,0,none⟩)])] w fun e w'=>e=.returned (.tuple #[])∧SnSt w0 w' gb kb sb cb sg n g.places:=by
 obtain ⟨⟨ae,ce,rfl⟩,⟨ai,ci,rfl⟩,ao,co,rfl⟩:=hR.slices
 have hpl:g.places=(g.ins ++ g.outs) ++ g.edges.flatMap fun e=>e.ins ++ e.outs:=by unfold GrI.places;rw [List.append_assoc]
 have HPL:=Lib.hid hpl
 clear hpl
 go_enter Tryz.func255,Tryz.ntmps255
 go_wp2_with fail
 have kI:=Bk.new w 53 #[.int .i64 z,.slice ae g.edges.length ce,.slice ai g.ins.length ci,.slice ao g.outs.length co]
 have hnT:=h.notT w.heap.size (Nat.le_refl _)
 have hs0:=h.keep (alloc_below w (.cells #[.int .i64 z,.slice ae g.edges.length ce,.slice ai g.ins.length ci,.slice ao g.outs.length co] 53))
 clear h
 generalize (w.alloc (.cells #[.int .i64 z,.slice ae g.edges.length ce,.slice ai g.ins.length ci,.slice ao g.outs.length co] 53))=u0 at *
 refine (visit_any _ g.ins w0 _ gb kb sb cb sg n [] hR.inn hn hok.inn hs0).mono ?_
 rintro r u1 ⟨rfl,hs1,hx1⟩
 rw [List.nil_append] at hs1
 replace kI:=kI.exc hx1 hnT
 obtain ⟨iI,-,zI⟩:=kI.cell
 clear hx1 hs0
 go_wp2_with fail
 refine (visit_any _ g.outs w0 _ gb kb sb cb sg n g.ins hR.out hn hok.out hs1).mono ?_
 clear iI zI
 rintro r u2 ⟨rfl,hs2,hx2⟩
 replace kI:=kI.exc hx2 hnT
 obtain ⟨iI,-,zI⟩:=kI.cell
 clear hx2 hs1
 go_wp2_with fail
 clear iI zI kI hnT
 obtain ⟨pe,cpe,he,hce,hat⟩:=hR.ed
 simp only [Value.slice.injEq] at he
 obtain ⟨rfl,-,rfl⟩:=he
 have hel:=hok.ed
 go_loopw [17] (fun i wr=>∃ k:Nat,k≤g.edges.length∧i=.int .i64 k∧SnSt w0 wr gb kb sb cb sg n ((g.ins ++ g.outs) ++ (g.edges.take k).flatMap fun e=>e.ins ++ e.outs)) (fun i _=>g.edges.length - (intOf i).toNat)
 case atStart=>exact ⟨0,Nat.zero_le _,rfl,by simpa using hs2⟩
 case round =>
  clear hs2
  obtain ⟨k,hk,rfl,hst⟩:=hrel
  by_cases hlt:k<g.edges.length
  ·obtain ⟨b,o,rfl,_,hnd⟩:=hat k hlt
   obtain ⟨c0,c1,x1,x2,c2,c3,hi0,ho0⟩:=hnd.keep hst.bel
   obtain ⟨d0,d1,y1,y2,d2,d3,hi,ho⟩:=hnd
   obtain rfl:x1=y1:=by have:=cell_keep hst.bel d2;rw [c2] at this;exact Option.some.inj this
   obtain rfl:x2=y2:=by have:=cell_keep hst.bel d3;rw [c3] at this;exact Option.some.inj this
   obtain ⟨a1,q1,rfl⟩:=hi.slice
   obtain ⟨a2,q2,rfl⟩:=ho.slice
   have bz:=cell_lt c0
   have hok1:=hok.eds _ (List.getElem_mem hlt)
   have hT1:(g.edges.take (k+1)).flatMap (fun e=>e.ins ++ e.outs)=(g.edges.take k).flatMap (fun e=>e.ins ++ e.outs) ++ (g.edges[k].ins ++ g.edges[k].outs):=by
    rw [List.take_succ_eq_append_getElem hlt,List.flatMap_append];simp
   have HT:=Lib.hid hT1
   clear hT1 hat d0 d1 d2 d3 hi0 ho0
   go_wp2_with fail
   have kI:=Bk.new wr 189 #[.int .i64 g.edges[k].kind,.int .i64 g.edges[k].value,.slice a1 g.edges[k].ins.length q1,.slice a2 g.edges[k].outs.length q2]
   have hnT:=hst.notT wr.heap.size (Nat.le_refl _)
   have hs0:=hst.keep (alloc_below wr (.cells #[.int .i64 g.edges[k].kind,.int .i64 g.edges[k].value,.slice a1 g.edges[k].ins.length q1,.slice a2 g.edges[k].outs.length q2] 189))
   clear hst c0 c1 c2 c3 bz
   generalize (wr.alloc (.cells #[.int .i64 g.edges[k].kind,.int .i64 g.edges[k].value,.slice a1 g.edges[k].ins.length q1,.slice a2 g.edges[k].outs.length q2] 189))=u3 at *
   refine (visit_any _ g.edges[k].ins w0 _ gb kb sb cb sg n _ hi hn hok1.inn hs0).mono ?_
   rintro r u4 ⟨rfl,hs1,hx1⟩
   replace kI:=kI.exc hx1 hnT
   obtain ⟨iI,-,zI⟩:=kI.cell
   clear hx1 hs0
   go_wp2_with fail
   refine (visit_any _ g.edges[k].outs w0 _ gb kb sb cb sg n _ ho hn hok1.out hs1).mono ?_
   clear iI zI
   rintro r u5 ⟨rfl,hs2,hx2⟩
   clear hx2 hs1 kI
   go_wp2_with fail
   go_roundw
   case rel=>exact ⟨k+1,by omega,by go_num,by rw [HT.out];simpa [List.append_assoc] using hs2⟩
   case measure=>simp [intOf];omega
  ·obtain rfl:k=g.edges.length:=by omega
   rw [List.take_length,← HPL.out] at hst
   go_wp2
   exact bodyPost_end (v:=.tuple #[]) (by simp [results,Tryz.results255,go_sem]) rfl ⟨rfl,hst⟩
end Go.Proofs.YtbljmfcifljkaaaGreatDoor
/-
  Valid graphs: the program's isGraph. Own work.
-/
namespace Go.Proofs.YtbljmfcifljkaaaGreatDoor
open Go.RowKit
set_option maxRecDepth 100000
set_option maxHeartbeats 4000000
theorem infoBool:(Tryz.prog.info? 4).map (fun i=>(i.zero,i.size,i.bytes))=some (some (.bool false),1,1):=by kernel_rfl
theorem grB_fit {g:GrI} (h:¬ (inB g.wires 0 100=true∧g.edges.length≤60∧g.ins.length≤12∧g.outs.length≤12)):grB g=false:=by
 unfold grB gfitB
 rw [Bool.and_eq_false_imp]
 intro h2
 simp only [Bool.and_eq_true,decide_eq_true_eq] at h2
 exact absurd ⟨h2.1,h2.2.1,h2.2.2.1,h2.2.2.2⟩ h
theorem grB_ed {g:GrI} {k:Nat} (hk:k<g.edges.length) (h:edB g.edges[k]=false):grB g=false:=by
 unfold grB
 have:g.edges.all edB=false:=List.all_eq_false.2 ⟨_,List.getElem_mem hk,by simp [h]⟩
 rw [this];simp
theorem grB_rest {g:GrI} (h:inB g.wires 0 100=true∧g.edges.length≤60∧g.ins.length≤12∧g.outs.length≤12) (he:∀ e ∈ g.edges,edB e=true):grB g=(inG g.wires g.places && allG g):=by
 unfold grB gfitB
 rw [h.1,decide_eq_true h.2.1,decide_eq_true h.2.2.1,decide_eq_true h.2.2.2,List.all_eq_true.2 he]
 rfl
theorem edB_len {e:EdI} (h:edB e=true):e.ins.length≤2∧e.outs.length≤2:=by
 unfold edB at h
 simp only [Bool.and_eq_true,decide_eq_true_eq] at h
 have h2:(kindW e.kind).1≤2∧(kindW e.kind).2≤2:=by
  unfold kindW
  repeat' split
  all_goals simp
 rw [h.2.2] at h2
 simp only at h2
 omega
theorem isGraph_any (ve vi vo:Value) (g:GrI) (w:World) (hR:GrR w ve vi vo g) (hok:GrOk g) :
  Calls Tryz.prog 189 #[.agg #[.int .i64 g.wires,ve,vi,vo]] w (FlP (grB g) w):=by
 obtain ⟨⟨ae,ce,rfl⟩,⟨ai,ci,rfl⟩,ao,co,rfl⟩:=hR.slices
 have hA:=alloc_below w (.cells #[.int .i64 g.wires,.slice ae g.edges.length ce,.slice ai g.ins.length ci,.slice ao g.outs.length co] 53)
 by_cases hfit:inB g.wires 0 100=true∧g.edges.length≤60∧g.ins.length≤12∧g.outs.length≤12
 ·have h1:=hfit.1
  have n0:0≤g.wires∧g.wires≤100:=by simpa [inB] using h1
  have n2:¬ (60:Int)<g.edges.length:=by omega
  have n3:¬ (12:Int)<g.ins.length:=by omega
  have n4:¬ (12:Int)<g.outs.length:=by omega
  obtain ⟨n,hn⟩:∃ n:Nat,g.wires=n:=⟨g.wires.toNat,by omega⟩
  have HF:=Lib.hid (And.intro h1 True.intro)
  have HFIT:=Lib.hid hfit
  have HN:=Lib.hid (And.intro hn n0)
  clear h1 hfit hn n0
  go_enter Tryz.func189,Tryz.ntmps189
  go_wp2_with (go_at_call 128;refine (within_any _ _ _ _).mono ?_;rintro r w2 ⟨rfl,rfl⟩;rw [HF.out.1])
  have kG:=Bk.new w 53 #[.int .i64 g.wires,.slice ae g.edges.length ce,.slice ai g.ins.length ci,.slice ao g.outs.length co]
  generalize (w.alloc (.cells #[.int .i64 g.wires,.slice ae g.edges.length ce,.slice ai g.ins.length ci,.slice ao g.outs.length co] 53))=u0 at *
  clear n2 n3 n4
  obtain ⟨pe,cpe,he,hce,hat⟩:=hR.ed
  simp only [Value.slice.injEq] at he
  obtain ⟨rfl,-,rfl⟩:=he
  go_loopw [33] (fun i wr=>∃ k:Nat,k≤g.edges.length∧i=.int .i64 k∧Below u0.heap.size u0 wr∧∀ j,∀ h:j<g.edges.length,j<k → edB (g.edges[j]'h)=true) (fun i _=>g.edges.length - (intOf i).toNat)
  case atStart=>exact ⟨0,Nat.zero_le _,rfl,Below.refl _ _,fun j h1 h2=>by omega⟩
  case round =>
   obtain ⟨k,hk,rfl,hbr,hall⟩:=hrel
   have HALL:=Lib.hid hall
   clear hall
   by_cases hlt:k<g.edges.length
   ·obtain ⟨b,o,rfl,_,hnd⟩:=hat k hlt
    have hbw:=hA.trans (hbr.mono hA.size)
    obtain ⟨c0,c1,x1,x2,c2,c3,hi,ho⟩:=hnd.keep hbw
    obtain ⟨a1,q1,rfl⟩:=hi.slice
    obtain ⟨a2,q2,rfl⟩:=ho.slice
    have bz:=cell_lt c0
    have hB2:=alloc_below wr (.cells #[.int .i64 g.edges[k].kind,.int .i64 g.edges[k].value,.slice a1 g.edges[k].ins.length q1,.slice a2 g.edges[k].outs.length q2] 189)
    have hE:=isEdge_any g.edges[k] _ _ _ (hi.keep hB2) (ho.keep hB2)
    cases hed:edB g.edges[k] with
    | false =>
     have hG:=grB_ed hlt hed
     have HG:=Lib.hid hG
     rw [hed] at hE
     have HE:=Lib.hid hE
     clear hE hed hG hat hnd
     go_wp2_with (go_at_call 254;refine HE.out.mono ?_;rintro r w3 ⟨rfl,hb3⟩)
     go_ret
     exact ⟨by rw [HG.out];rfl,hbw.trans ((hB2.trans (hb3.mono hB2.size)).mono hbw.size)⟩
    | true =>
     have HED:=Lib.hid hed
     rw [hed] at hE
     have HE:=Lib.hid hE
     clear hE hed hat hnd
     go_wp2_with (go_at_call 254;refine HE.out.mono ?_;rintro r w3 ⟨rfl,hb3⟩)
     go_roundw
     case rel=>exact ⟨k+1,by omega,by go_num,hbr.trans ((hB2.trans (hb3.mono hB2.size)).mono hbr.size),fun j h1 h2=>by
      rcases Nat.lt_or_ge j k with h|h
      ·exact HALL.out j h1 h
      ·obtain rfl:j=k:=by omega
       exact HED.out⟩
     case measure=>simp [intOf];omega
   ·obtain rfl:k=g.edges.length:=by omega
    replace kG:=kG.keep hbr
    obtain ⟨iG,-,zG⟩:=kG.cell
    have hbw:=hA.trans (hbr.mono hA.size)
    clear hat hA hbr
    replace HALL:∀ e ∈ g.edges,edB e=true:=fun e he=>by
     obtain ⟨j,hj,rfl⟩:=List.mem_iff_getElem.1 he
     exact HALL.out j hj hj
    have hrest:=grB_rest HFIT.out HALL
    have hall:((cntL n g.places:Int) == (n:Int))=allG g:=by
     have h1:=cntL_all n g.places
     unfold allG
     rw [show g.wires.toNat=n by have:=HN.out.1;omega,← h1]
     by_cases hh:(cntL n g.places:Int)=n
     ·simp [hh]
     ·simp [hh]
    rw [HN.out.1] at hrest
    have HR:=Lib.hid (And.intro hrest hall)
    clear HALL hrest hall iG zG
    have kG':Bk wr w.heap.size 53 #[.int .i64 (n:Int),.slice ae g.edges.length ce,.slice ai g.ins.length ci,.slice ao g.outs.length co]:=by rw [← HN.out.1];exact kG
    clear kG
    obtain ⟨iG,-,zG⟩:=kG'.cell
    have hgw:w.heap.size<wr.heap.size:=zG
    have hn100:n≤100:=by have:=HN.out;omega
    obtain ⟨i0,hi,hz0,hz1,hz2⟩:=info_parts infoBool
    go_wp2_with (at_make;refine wpList_make_full _ rfl _ _ _ rfl w.heap.size 4 i0 _ 1 Tryz.underlying307 hi hz0 hz1 _ _ _ _ n rfl rfl rfl rfl (by rw [hz2];omega) (by unfold maxLen;omega) (by omega) ?_;intro x1 hown hgr;have hbx:Below wr.heap.size wr x1:=(Below.refl _ _).grown hgr (Nat.le_refl _) (by simp);replace kG':=kG'.keep hbx;clear iG zG;obtain ⟨iG,-,zG⟩:=kG'.cell;have zG1:w.heap.size<x1.heap.size+1:=(by omega);have zG2:w.heap.size<x1.heap.size+1+1:=(by omega);have zn0:¬ w.heap.size=x1.heap.size:=(by omega);have zn1:¬ w.heap.size=x1.heap.size+1:=(by omega);have zn2:¬ w.heap.size=x1.heap.size+1+1:=(by omega))
    have hsg:wr.heap.size<x1.heap.size:=(hown.lt wr.heap.size rfl).2
    have hzm:=made_flat (f:=bCell) false n (sz:=1) (by omega) rfl
    have hrow:x1.ownsRow w.heap.size 4 1 (.slice (some ⟨wr.heap.size,0,none⟩) n n) n ((seenL n []).flatMap bCell):=by rw [seenL_nil,← hzm];exact hown
    have hcn:cntL n []=0:=by unfold cntL;rw [seenL_nil];simp [List.count_replicate]
    have hB1:Below w.heap.size w (((x1.alloc (.cells #[.slice (some ⟨wr.heap.size,0,none⟩) n n] 307)).alloc (.cells #[.bool true] 4)).alloc (.cells #[.int .i64 0] 3)):=(((hbw.trans (hbx.mono hbw.size)).alloc (by have:=hbw.size;omega) _).alloc (by have:=hbw.size;simp;omega) _).alloc (by have:=hbw.size;simp;omega) _
    have kS:=((Bk.new x1 307 #[.slice (some ⟨wr.heap.size,0,none⟩) n n]).alloc (.cells #[.bool true] 4)).alloc (.cells #[.int .i64 0] 3)
    have kK:=(Bk.new (x1.alloc (.cells #[.slice (some ⟨wr.heap.size,0,none⟩) n n] 307)) 4 #[.bool true]).alloc (.cells #[.int .i64 0] 3)
    have kC:=Bk.new ((x1.alloc (.cells #[.slice (some ⟨wr.heap.size,0,none⟩) n n] 307)).alloc (.cells #[.bool true] 4)) 3 #[.int .i64 0]
    have kG3:=((kG'.alloc (.cells #[.slice (some ⟨wr.heap.size,0,none⟩) n n] 307)).alloc (.cells #[.bool true] 4)).alloc (.cells #[.int .i64 0] 3)
    have hrow3:=owns_keep (alloc_below _ (.cells #[.int .i64 0] 3)) (owns_keep (alloc_below _ (.cells #[.bool true] 4)) (owns_keep (alloc_below x1 (.cells #[.slice (some ⟨wr.heap.size,0,none⟩) n n] 307)) hrow))
    simp only [World.size_alloc] at kK kC
    generalize (((x1.alloc (.cells #[.slice (some ⟨wr.heap.size,0,none⟩) n n] 307)).alloc (.cells #[.bool true] 4)).alloc (.cells #[.int .i64 0] 3))=x2 at *
    have hst:SnSt w x2 w.heap.size (x1.heap.size+1) x1.heap.size (x1.heap.size+1+1) wr.heap.size n []:=by
     refine ⟨hB1,⟨by omega,by omega,by omega⟩,⟨by omega,by omega,by omega⟩,⟨by omega,by omega,by omega⟩,⟨by omega,by omega,by omega⟩,kG3.cell.1 0,kK,kS.cell.1 0,hrow3,?_⟩
     rw [hcn];exact kC
    clear kS kK kC hrow3 hrow hown hgr hzm hcn hbx
    refine (lists_any _ _ _ _ g w _ _ _ _ _ _ n hR hok hn100 hst).mono ?_
    rintro r x3 ⟨rfl,hs3⟩
    clear hst kG' kG3 iG zG zG1 zG2 zn0 zn1 zn2 hsg
    obtain ⟨iK,-,zK⟩:=hs3.good.cell
    obtain ⟨iC,-,zC⟩:=hs3.cnt.cell
    have cg:=hs3.g
    have zg:=cell_lt cg
    have hb3:=hs3.bel
    have hR2:=HR.out.2
    cases hgd:inG (n:Int) g.places with
    | false =>
     rw [hgd] at iK
     have HX:=Lib.hid hgd
     clear hgd hs3 hR2
     go_wp2
     go_ret
     exact ⟨by rw [HR.out.1,HX.out];rfl,hb3⟩
    | true =>
     rw [hgd] at iK
     have HX:=Lib.hid hgd
     clear hgd hs3
     go_wp2
     go_ret
     exact ⟨by rw [HR.out.1,HX.out,Bool.true_and,← HR.out.2];rfl,hb3⟩
 ·have hG:=grB_fit hfit
  have HG:=Lib.hid hG
  cases h1:inB g.wires 0 100 with
  | false =>
   have HF:=Lib.hid (And.intro h1 True.intro)
   clear h1 hfit hG
   go_enter Tryz.func189,Tryz.ntmps189
   go_wp2_with (go_at_call 128;refine (within_any _ _ _ _).mono ?_;rintro r w2 ⟨rfl,rfl⟩;rw [HF.out.1])
   go_ret
   exact ⟨by rw [HG.out];rfl,hA⟩
  | true =>
   have HF:=Lib.hid (And.intro h1 True.intro)
   by_cases h2:g.edges.length≤60
   ·have n2:¬ (60:Int)<g.edges.length:=by omega
    by_cases h3:g.ins.length≤12
    ·have n3:¬ (12:Int)<g.ins.length:=by omega
     have n4:(12:Int)<g.outs.length:=by
      rcases Nat.lt_or_ge 12 g.outs.length with h|h
      ·omega
      ·exact absurd ⟨h1,h2,h3,h⟩ hfit
     clear h1 hfit hG h2 h3
     go_enter Tryz.func189,Tryz.ntmps189
     go_wp2_with (go_at_call 128;refine (within_any _ _ _ _).mono ?_;rintro r w2 ⟨rfl,rfl⟩;rw [HF.out.1])
     go_ret
     exact ⟨by rw [HG.out];rfl,hA⟩
    ·have n3:(12:Int)<g.ins.length:=by omega
     clear h1 hfit hG h2 h3
     go_enter Tryz.func189,Tryz.ntmps189
     go_wp2_with (go_at_call 128;refine (within_any _ _ _ _).mono ?_;rintro r w2 ⟨rfl,rfl⟩;rw [HF.out.1])
     go_ret
     exact ⟨by rw [HG.out];rfl,hA⟩
   ·have n2:(60:Int)<g.edges.length:=by omega
    clear h1 hfit hG h2
    go_enter Tryz.func189,Tryz.ntmps189
    go_wp2_with (go_at_call 128;refine (within_any _ _ _ _).mono ?_;rintro r w2 ⟨rfl,rfl⟩;rw [HF.out.1])
    go_ret
    exact ⟨by rw [HG.out];rfl,hA⟩
end Go.Proofs.YtbljmfcifljkaaaGreatDoor
/-
  Valid graphs over a field, the program's. Own work.
-/
namespace Go.Proofs.YtbljmfcifljkaaaGreatDoor
open Go.RowKit
set_option maxRecDepth 100000
set_option maxHeartbeats 4000000
end Go.Proofs.YtbljmfcifljkaaaGreatDoor
/-
  Rows of lists of numbers; each wire once: the program's joined, isPermutation, occursOnce. Own work.
-/
namespace Go.Proofs.YtbljmfcifljkaaaGreatDoor
open Go.RowKit
set_option maxRecDepth 100000
set_option maxHeartbeats 4000000
theorem ints_src {w:World} {v:Value} {zs:List Int} (h:IntsAt w v zs):SrcAt w 1 v zs.length (zs.flatMap iCell):=by
 refine slat_src (by omega) iCell_len h ?_
 rintro i b o hi ⟨_,h0⟩ j hj
 obtain rfl:j=0:=by omega
 exact h0
theorem iCell_one (zs:List Int):∀ u ∈ zs.flatMap iCell,u.oneCell'=true:=by
 intro u hu
 obtain ⟨d,_,hd⟩:=List.mem_flatMap.1 hu
 simp [iCell] at hd
 subst hd;rfl
theorem ints_append {w:World} {v:Value} {zs:List Int} (h:IntsAt w v zs) {ops:Array Oper} {rest:List Oper} {o:Oper} {a:Act} {Q:Exit → Act → World → Prop} (hgd:o.guard=none) (s x:Operand)
  (ho:o.op=.call { callee:=.builtin .append,args:=#[s,x],argTypes:=#[40,40] })
  (B:Nat) (u:Value) (xs:List Int) (hs:a.eval s=u) (hx:a.eval x=v) (hown:Rw w B u xs) (hB:B≤w.heap.size) (hl:xs.length+zs.length≤1048576)
  (H:∀ v' w',Rw w' B v' (xs ++ zs) → w.grownBy w' u.ownBlock → (v'.ownBlock=u.ownBlock∨v'.ownBlock=some w.heap.size) → wpList Tryz.prog ops Q rest (a.put o.dst v') w'):wpList Tryz.prog ops Q (o :: rest) a w:=by
 obtain ⟨i0,hi,hz0,hz1,hz2⟩:=info_parts infoInt
 refine wpList_append_src hgd s x 40 ho B 3 i0 _ 1 8 Tryz.underlying40 hi hz0 hz1 hz2 rfl (by decide) u xs.length _ hs hown v zs.length _ hx (ints_src h) (iCell_one zs) (by unfold maxLen;omega) (by omega) hB ?_
 intro v' w' h1 h2 h3
 refine H v' w' ?_ h2 h3
 unfold Rw
 rw [List.length_append,List.flatMap_append]
 exact h1
theorem ints_empty (w:World) (g B:Nat) (hg:g=w.heap.size) (hB:B≤w.heap.size):Rw (w.alloc (.cells #[] 3)) B (.slice (some ⟨g,0,none⟩) 0 0) []:=by
 subst hg
 have:=World.ownsRow_made (base:=B) (size:=1) (e:=3) w #[] 0 hB (by unfold maxLen;omega) rfl
 simpa [Rw] using this
def LsAt (w:World) (v:Value) (Ls:List (List Int)):Prop:=SlAt 1 v Ls.length fun i b o=>∃ h:i<Ls.length,∃ u,w.cell? ⟨b,o,none⟩=some u∧IntsAt w u Ls[i]
theorem LsAt.keep {w w':World} (hb:Below w.heap.size w w') {v:Value} {Ls:List (List Int)} (h:LsAt w v Ls):LsAt w' v Ls :=
 SlAt.mono h fun _ _ _ ⟨hi,u,h1,h2⟩=>⟨hi,u,cell_keep hb h1,h2.keep hb⟩
theorem LsAt.slice {w:World} {v:Value} {Ls:List (List Int)} (h:LsAt w v Ls):∃ a c,v=.slice a Ls.length c:=by
 obtain ⟨a,cap,rfl,_⟩:=h;exact ⟨a,cap,rfl⟩
theorem flat_snoc (Ls:List (List Int)) (k:Nat) (h:k<Ls.length):(Ls.take (k+1)).flatten=(Ls.take k).flatten ++ Ls[k]:=by
 rw [List.take_succ_eq_append_getElem h,List.flatten_append]
 simp only [List.flatten_cons,List.flatten_nil,List.append_nil]
theorem flat_le (Ls:List (List Int)) (k:Nat) (h:k<Ls.length):(Ls.take (k+1)).flatten.length=(Ls.take k).flatten.length+Ls[k].length∧(Ls.take (k+1)).flatten.length≤Ls.flatten.length:=by
 refine ⟨by rw [flat_snoc Ls k h,List.length_append],?_⟩
 have h2:Ls.flatten=(Ls.take (k+1)).flatten ++ (Ls.drop (k+1)).flatten:=by rw [← List.flatten_append,List.take_append_drop]
 rw [h2,List.length_append]
 omega
theorem joined_any (v:Value) (Ls:List (List Int)) (w:World) (hv:LsAt w v Ls) (hn:Ls.length≤1000) (hm:Ls.flatten.length≤1000) :
  Calls Tryz.prog 251 #[v] w fun e w'=>∃ v',e=.returned v'∧Rw w' w.heap.size v' Ls.flatten∧Below w.heap.size w w':=by
 obtain ⟨a,cap,rfl,hc,hat⟩:=hv
 go_enter Tryz.func251,Tryz.ntmps251
 go_wp2
 have hr0:=ints_empty w w.heap.size w.heap.size rfl (Nat.le_refl _)
 have hb0:=alloc_below w (.cells #[] 3)
 go_loopw [3,9] (fun rv i wr=>∃ k:Nat,k≤Ls.length∧i=.int .i64 k∧Rw wr w.heap.size rv (Ls.take k).flatten∧Below w.heap.size w wr) (fun _ i _=>Ls.length - (intOf i).toNat)
 case atStart=>exact ⟨0,Nat.zero_le _,rfl,hr0,hb0⟩
 case round =>
  clear hr0 hb0
  obtain ⟨k,hk,rfl,hrow,hbel⟩:=hrel
  by_cases hlt:k<Ls.length
  ·obtain ⟨b,o,rfl,_,u,c0,hu⟩:=hat k hlt
   rw [Nat.mul_one] at c0
   replace c0:=cell_keep hbel c0
   replace hu:=hu.keep hbel
   have bz:=cell_lt c0
   obtain ⟨f1,f2⟩:=flat_le Ls k hlt
   have hwz:=hbel.size
   have hT:=flat_snoc Ls k hlt
   have HT:=Lib.hid hT
   obtain ⟨au,cu,rfl⟩:=hu.slice
   obtain ⟨ar,cr,rfl⟩:=hrow.slice
   clear hat hT
   go_wp2_with (at_builtin;refine ints_append hu rfl (.tmp 13) (.tmp 14) rfl w.heap.size (.slice ar (Ls.take k).flatten.length cr) (Ls.take k).flatten rfl rfl hrow hwz (by omega) ?_;intro v2 w2 h1 h2 h3)
   have hb2:Below w.heap.size w w2:=hbel.grown h2 hwz (fun j hj=>(World.ownsRow.lt hrow j hj).1)
   go_roundw
   case rel=>exact ⟨k+1,by omega,by go_num,by rw [HT.out];exact h1,hb2⟩
   case measure=>simp [intOf];omega
  ·obtain rfl:k=Ls.length:=by omega
   rw [List.take_length] at hrow
   go_wp2
   go_ret
   exact ⟨_,rfl,hrow,hbel⟩
end Go.Proofs.YtbljmfcifljkaaaGreatDoor
/-
  Monogamous graphs, the program's. Own work.
-/
namespace Go.Proofs.YtbljmfcifljkaaaGreatDoor
open Go.RowKit
set_option maxRecDepth 100000
set_option maxHeartbeats 4000000
theorem row_blk_ne {w:World} {B e sz b:Nat} {v:Value} {n:Nat} {xs:List Value} {cs:Array Value} {t:TypeId} (h:w.ownsRow B e sz v n xs) (hb:Bk w b t cs) (he:e ≠ t):v.ownBlock ≠ some b:=by
 intro hk
 rcases h.2 with ⟨rfl,_⟩|⟨g,cap,cur,rfl,_,hgg,_⟩
 ·simp [Value.ownBlock] at hk
 ·simp [Value.ownBlock] at hk
  subst hk
  unfold Bk at hb
  rw [hgg] at hb
  simp at hb
  exact he hb.2
theorem Bk.grown {w w':World} {row:Option Nat} {b:Nat} {t:TypeId} {cs:Array Value} (hg:w.grownBy w' row) (h:Bk w b t cs) (hr:row ≠ some b):Bk w' b t cs:=(hg.block b h.lt (fun e=>hr e.symm)).trans h
def lCell (x:List Int × Value):List Value:=[x.2]
theorem lCell_len (x:List Int × Value):(lCell x).length=1:=rfl
structure LsR (w0 w:World) (v:Value) (xs:List (List Int × Value)):Prop where
 row:w.ownsRow w0.heap.size 40 1 v xs.length (xs.flatMap lCell)
 els:∀ x ∈ xs,IntsAt w0 x.2 x.1
theorem LsR.at {w0 w:World} {v:Value} {xs:List (List Int × Value)} (h:LsR w0 w v xs) (hb:Below w0.heap.size w0 w):LsAt w v (xs.map Prod.fst):=by
 have ho:w.ownsRow w0.heap.size 40 1 v (xs.map Prod.fst).length (xs.flatMap lCell):=by rw [List.length_map];exact h.row
 refine owns_slat ho _ fun i b o hi' hc=>⟨hi',?_⟩
 have hi:i<xs.length:=by simpa using hi'
 have g:=(hc 0 (by omega)).trans (flat_get lCell_len xs i 0 hi (by omega))
 rw [List.getElem_map]
 exact ⟨xs[i].2,g,(h.els _ (List.getElem_mem hi)).keep hb⟩
theorem LsR.keep {w0 w w':World} {v:Value} {xs:List (List Int × Value)} (hb:Below w.heap.size w w') (h:LsR w0 w v xs):LsR w0 w' v xs:=⟨owns_keep hb h.row,h.els⟩
theorem LsR.grown {w0 w w':World} {v:Value} {xs:List (List Int × Value)} {row:Option Nat} (h:LsR w0 w v xs) (hg:w.grownBy w' row) (hne:∀ k,v.ownBlock=some k → row ≠ some k):LsR w0 w' v xs:=by
 refine ⟨World.ownsRow.kept h.row hg ?_,h.els⟩
 cases hv:v.ownBlock with
 | none=>exact .inl rfl
 | some k=>exact .inr (fun e=>hne k hv (e ▸ rfl))
theorem LsR.made {w0 w:World} {b:Nat} {u:Value} {zs:List Int} (hbo:w.heap[b]?=some (.cells #[u] 40)) (hB:w0.heap.size≤b) (hu:IntsAt w0 u zs):LsR w0 w (.slice (some ⟨b,0,none⟩) 1 1) [(zs,u)] :=
 ⟨⟨rfl,.inr ⟨b,1,#[u],rfl,hB,hbo,Nat.le_refl _,by unfold maxLen;omega,rfl,rfl⟩⟩,fun x hx=>by simp only [List.mem_singleton] at hx;subst hx;exact hu⟩
end Go.Proofs.YtbljmfcifljkaaaGreatDoor
/-
  All graphs of a session in one row, the program's. Own work.
-/
namespace Go.Proofs.YtbljmfcifljkaaaGreatDoor
open Go.RowKit
set_option maxRecDepth 100000
set_option maxHeartbeats 4000000
abbrev GrV:=GrI × Value × Value × Value
def GrsVals (w:World) (v:Value) (xs:List GrV):Prop :=
 SlAt 4 v xs.length (fun i b o=>∃ h:i<xs.length,∀ j,j<4 → w.cell? ⟨b,o+j,none⟩=(grCells xs[i])[j]?)∧∀ x ∈ xs,GrR w x.2.1 x.2.2.1 x.2.2.2 x.1
theorem GrsVals.keep {w w':World} (hb:Below w.heap.size w w') {v:Value} {xs:List GrV} (h:GrsVals w v xs):GrsVals w' v xs :=
 ⟨SlAt.mono h.1 fun i b o ⟨hi,hr⟩=>⟨hi,fun j hj=>by
  have h1:=hr j hj
  have h2:∃ u,(grCells xs[i])[j]?=some u:=⟨_,List.getElem?_eq_getElem (by rw [grCells_len];exact hj)⟩
  obtain ⟨u,hu⟩:=h2
  rw [hu] at h1 ⊢
  exact cell_keep hb h1⟩,fun x hx=>(h.2 x hx).keep hb⟩
theorem grCells_one {w:World} {xs:List GrV} (h:∀ x ∈ xs,GrR w x.2.1 x.2.2.1 x.2.2.2 x.1):∀ u ∈ xs.flatMap grCells,u.oneCell'=true:=by
 intro u hu
 obtain ⟨x,hx,hd⟩:=List.mem_flatMap.1 hu
 obtain ⟨⟨ae,ce,e1⟩,⟨ai,ci,e2⟩,ao,co,e3⟩:=(h x hx).slices
 simp only [grCells,List.mem_cons,List.not_mem_nil,or_false] at hd
 rcases hd with rfl|rfl|rfl|rfl
 ·rfl
 ·rw [e1];rfl
 ·rw [e2];rfl
 ·rw [e3];rfl
structure GsR (w0 w:World) (v:Value) (xs:List GrV):Prop where
 row:w.ownsRow w0.heap.size 53 4 v xs.length (xs.flatMap grCells)
 els:∀ x ∈ xs,GrR w0 x.2.1 x.2.2.1 x.2.2.2 x.1
theorem GsR.keep {w0 w w':World} {v:Value} {xs:List GrV} (hb:Below w.heap.size w w') (h:GsR w0 w v xs):GsR w0 w' v xs:=⟨owns_keep hb h.row,h.els⟩
theorem GsR.at {w0 w:World} {v:Value} {xs:List GrV} (h:GsR w0 w v xs) (hb:Below w0.heap.size w0 w):GrsAt w v (xs.map Prod.fst):=by
 have ho:w.ownsRow w0.heap.size 53 4 v (xs.map Prod.fst).length (xs.flatMap grCells):=by rw [List.length_map];exact h.row
 refine owns_slat ho _ fun i b o hi' hc=>⟨hi',?_⟩
 have hi:i<xs.length:=by simpa using hi'
 have g:∀ j,j<4 → w.cell? ⟨b,o+j,none⟩=(grCells xs[i])[j]?:=fun j hj=>(hc j hj).trans (flat_get grCells_len xs i j hi hj)
 rw [List.getElem_map]
 exact ⟨g 0 (by omega),xs[i].2.1,xs[i].2.2.1,xs[i].2.2.2,g 1 (by omega),g 2 (by omega),g 3 (by omega),(h.els _ (List.getElem_mem hi)).keep hb⟩
end Go.Proofs.YtbljmfcifljkaaaGreatDoor
/-
  All graphs of a session, the program's graphs. Own work.
-/
namespace Go.Proofs.YtbljmfcifljkaaaGreatDoor
open Go.RowKit
set_option maxRecDepth 100000
set_option maxHeartbeats 4000000
def SnI.graphs (s:SnI):List GrI:=s.now :: s.goal :: (s.past ++ s.future)
end Go.Proofs.YtbljmfcifljkaaaGreatDoor
/-
  The program's AxiomsOf. Own work.
-/
namespace Go.Proofs.YtbljmfcifljkaaaGreatDoor
open Go.RowKit
set_option maxRecDepth 100000
set_option maxHeartbeats 4000000
end Go.Proofs.YtbljmfcifljkaaaGreatDoor
/-
  Valid sessions, the program's. Own work.
-/
namespace Go.Proofs.YtbljmfcifljkaaaGreatDoor
open Go.RowKit
set_option maxRecDepth 100000
set_option maxHeartbeats 4000000
theorem SnOk.graphs {s:SnI} (h:SnOk s):∀ g ∈ s.graphs,GrOk g:=by
 intro g hg
 unfold SnI.graphs at hg
 simp only [List.mem_cons,List.mem_append] at hg
 rcases hg with rfl|rfl|hg|hg
 ·exact h.now
 ·exact h.goal
 ·exact h.past g hg
 ·exact h.future g hg
end Go.Proofs.YtbljmfcifljkaaaGreatDoor
