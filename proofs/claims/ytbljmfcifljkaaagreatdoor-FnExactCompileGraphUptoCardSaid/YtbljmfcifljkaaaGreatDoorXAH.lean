/-
  Small loops over rows of ints. Own work.
-/
import Derived.Test.YtbljmfcifljkaaaGreatDoorXAG
set_option linter.all false
set_option maxRecDepth 100000
set_option maxHeartbeats 8000000
namespace Go.Proofs.YtbljmfcifljkaaaGreatDoor
open Go.RowKit
set_option maxRecDepth 100000
set_option maxHeartbeats 1000000
theorem areBelow_any (v:Value) (zs:List Int) (n:Int) (w:World) (hv:IntsAt w v zs) (hn:zs.length≤1048576) (hb:-1000000≤n∧n≤1000000) :
  Calls Tryz.prog 274 #[v,.int .i64 n] w fun e w'=>e=.returned (.bool (allB 0 (n - 1) zs))∧w=w':=by
 obtain ⟨a,cap,rfl,hc,hat⟩:=hv
 obtain ⟨m,hm⟩:∃ m,m=n - 1:=⟨_,rfl⟩
 rw [← hm]
 have hw1:IntKind.i64.wrap (n - 1)=m:=by rw [hm];exact IntWalk.i64_in _ (by omega)
 have hw2:n - 1=m:=hm.symm
 clear hm
 go_enter Tryz.func274,Tryz.ntmps274
 go_wp2
 go_loopw [9] (fun i wr=>∃ k:Nat,k≤zs.length∧i=.int .i64 k∧wr=w∧∀ j,∀ h:j<zs.length,j<k → inB (zs[j]'h) 0 m=true) (fun i _=>zs.length - (intOf i).toNat)
 case atStart=>exact ⟨0,Nat.zero_le _,rfl,by first|rfl|trivial,fun j h1 h2=>by omega⟩
 case round =>
  obtain ⟨k,hk,rfl,hww,hall⟩:=hrel
  subst hww
  have HALL:=Lib.hid hall
  clear hall
  by_cases hlt:k<zs.length
  ·obtain ⟨b,o,rfl,_,c0⟩:=hat k hlt
   rw [Nat.mul_one] at c0
   have bz:=cell_lt c0
   cases hb:inB zs[k] 0 m with
   | false =>
    have hfin:allB 0 m zs=false:=List.all_eq_false.2 ⟨_,List.getElem_mem hlt,by simp [hb]⟩
    have HF:=Lib.hid hfin
    have HB:=Lib.hid hb
    clear hfin hb hat
    go_wp2_with (go_at_call 128;refine (within_any _ _ _ _).mono ?_;rintro r w2 ⟨rfl,rfl⟩;rw [HB.out])
    go_ret
    exact ⟨by rw [HF.out];rfl,rfl⟩
   | true =>
    have HB:=Lib.hid hb
    clear hb hat
    go_wp2_with (go_at_call 128;refine (within_any _ _ _ _).mono ?_;rintro r w2 ⟨rfl,rfl⟩;rw [HB.out])
    go_roundw
    case rel=>exact ⟨k+1,by omega,by go_num,by first|rfl|trivial,fun j h1 h2=>by
     rcases Nat.lt_or_ge j k with h|h
     ·exact HALL.out j h1 h
     ·obtain rfl:j=k:=by omega
      exact HB.out⟩
    case measure=>simp [intOf];omega
  ·obtain rfl:k=zs.length:=by omega
   have hfin:allB 0 m zs=true:=List.all_eq_true.2 fun z hz=>by obtain ⟨j,hj,rfl⟩:=List.mem_iff_getElem.1 hz;exact HALL.out j hj hj
   have HF:=Lib.hid hfin
   clear hfin hat
   go_wp2
   go_ret
   exact ⟨by rw [HF.out];rfl,rfl⟩
theorem l1Has_any (v:Value) (zs:List Int) (x:Int) (w:World) (hv:IntsAt w v zs) (hn:zs.length≤1048576) :
  Calls Tryz.prog 269 #[v,.int .i64 x] w fun e w'=>e=.returned (.bool (decide (x ∈ zs)))∧w=w':=by
 obtain ⟨a,cap,rfl,hc,hat⟩:=hv
 go_enter Tryz.func269,Tryz.ntmps269
 go_wp2
 go_loopw [9] (fun i wr=>∃ k:Nat,k≤zs.length∧i=.int .i64 k∧wr=w∧∀ j,∀ h:j<zs.length,j<k → (zs[j]'h) ≠ x) (fun i _=>zs.length - (intOf i).toNat)
 case atStart=>exact ⟨0,Nat.zero_le _,rfl,by first|rfl|trivial,fun j h1 h2=>by omega⟩
 case round =>
  obtain ⟨k,hk,rfl,hww,hall⟩:=hrel
  subst hww
  have HALL:=Lib.hid hall
  clear hall
  by_cases hlt:k<zs.length
  ·obtain ⟨b,o,rfl,_,c0⟩:=hat k hlt
   rw [Nat.mul_one] at c0
   have bz:=cell_lt c0
   by_cases hb:zs[k]=x
   ·have hfin:decide (x ∈ zs)=true:=by rw [← hb];simp
    have HF:=Lib.hid hfin
    rw [hb] at c0
    clear hfin hb hat
    go_wp2
    go_ret
    exact ⟨by rw [HF.out];rfl,rfl⟩
   ·have HB:=Lib.hid hb
    have hne:(zs[k] == x)=false:=by simp [hb]
    generalize hz:zs[k]=z at c0 hne
    clear hb hat hz
    go_wp2
    go_roundw
    case rel=>exact ⟨k+1,by omega,by go_num,by first|rfl|trivial,fun j h1 h2=>by
     rcases Nat.lt_or_ge j k with h|h
     ·exact HALL.out j h1 h
     ·obtain rfl:j=k:=by omega
      exact HB.out⟩
    case measure=>simp [intOf];omega
  ·obtain rfl:k=zs.length:=by omega
   have hfin:decide (x ∈ zs)=false:=by
    simp only [decide_eq_false_iff_not]
    intro hx
    obtain ⟨j,hj,e⟩:=List.mem_iff_getElem.1 hx
    exact HALL.out j hj hj e
   have HF:=Lib.hid hfin
   clear hfin hat
   go_wp2
   go_ret
   exact ⟨by rw [HF.out];rfl,rfl⟩
theorem repeated_any (x:Int) (n:Nat) (w:World) (hn:n≤100000):Calls Tryz.prog 150 #[.int .i64 x,.int .i64 n] w (RwP (List.replicate n x) w):=by
 go_enter Tryz.func150,Tryz.ntmps150
 go_wp2_with fail
 refine (zeros_any n w hn).mono ?_
 rintro q w1 ⟨v,rfl,hr,hb⟩
 obtain ⟨a,c,rfl⟩:=hr.slice
 rw [List.length_replicate] at *
 go_wp2_with fail
 go_loopw [11] (fun i wr=>∃ k:Nat,k≤n∧i=.int .i64 k∧Rw wr w.heap.size (.slice a n c) ((List.replicate n x).take k ++ (List.replicate n (0:Int)).drop k)∧Below w.heap.size w wr) (fun i _=>n - (intOf i).toNat)
 case atStart=>exact ⟨0,Nat.zero_le _,rfl,by simpa using hr,hb⟩
 case round =>
  clear hr hb
  obtain ⟨k,hk,rfl,hrow,hbel⟩:=hrel
  by_cases hlt:k<n
  ·obtain ⟨g,c',e,hg,hBg⟩:=hrow.block (by simp;omega)
   simp only [Value.slice.injEq] at e
   obtain ⟨rfl,-,rfl⟩:=e
   obtain ⟨⟨d0,f0⟩,hset⟩:=hrow.fill (by simp) (by simp) hlt
   rw [List.getElem_replicate] at hset
   rw [List.getElem_replicate] at d0
   have HS:=Lib.hid hset
   clear hrow hset
   go_wp2
   go_roundw
   case rel=>exact ⟨k+1,by omega,by go_num,HS.out,hbel.setCell hBg _⟩
   case measure=>simp [intOf];omega
  ·obtain rfl:k=n:=by omega
   have HF:=Lib.hid (hrow.full (by simp) (by simp))
   clear hrow
   go_wp2
   go_ret
   exact ⟨_,rfl,HF.out,hbel⟩
theorem cnNone_any (n:Nat) (w:World) (hn:n≤100000):Calls Tryz.prog 200 #[.int .i64 n] w (RwP (List.replicate n (-1)) w):=by
 obtain ⟨i0,hi,hz0,hz1,hz2⟩:=info_parts infoInt
 go_enter Tryz.func200,Tryz.ntmps200
 go_wp2_with (at_make;refine wpList_make_full _ rfl _ _ _ rfl w.heap.size 3 i0 _ 1 Tryz.underlying40 hi hz0 hz1 _ _ _ _ n rfl rfl rfl rfl (by rw [hz2];omega) (by unfold maxLen;omega) (Nat.le_refl _) ?_;intro w1 hown hgr)
 have hz:=made_flat (f:=iCell) (0:Int) n (sz:=1) (by omega) rfl
 have hb:Below w.heap.size w w1:=(Below.refl _ _).grown hgr (Nat.le_refl _) (by simp)
 have hr:Rw w1 w.heap.size (.slice (some ⟨w.heap.size,0,none⟩) n n) (List.replicate n 0):=by
  unfold Rw
  rw [List.length_replicate,← hz]
  exact hown
 clear hown hgr hi hz0 hz1 hz2 hz
 go_loopw [9] (fun i wr=>∃ k:Nat,k≤n∧i=.int .i64 k∧Rw wr w.heap.size (.slice (some ⟨w.heap.size,0,none⟩) n n) ((List.replicate n (-1:Int)).take k ++ (List.replicate n (0:Int)).drop k)∧Below w.heap.size w wr) (fun i _=>n - (intOf i).toNat)
 case atStart=>exact ⟨0,Nat.zero_le _,rfl,by simpa using hr,hb⟩
 case round =>
  clear hr hb
  obtain ⟨k,hk,rfl,hrow,hbel⟩:=hrel
  by_cases hlt:k<n
  ·obtain ⟨g,c',e,hg,hBg⟩:=hrow.block (by simp;omega)
   simp only [Value.slice.injEq,Option.some.injEq,Addr.mk.injEq,and_true] at e
   obtain ⟨rfl,-,rfl⟩:=e
   obtain ⟨⟨d0,f0⟩,hset⟩:=hrow.fill (by simp) (by simp) hlt
   rw [List.getElem_replicate] at hset
   rw [List.getElem_replicate] at d0
   have HS:=Lib.hid hset
   clear hrow hset
   go_wp2
   go_roundw
   case rel=>exact ⟨k+1,by omega,by go_num,HS.out,hbel.setCell (Nat.le_refl _) _⟩
   case measure=>simp [intOf];omega
  ·obtain rfl:k=n:=by omega
   have HF:=Lib.hid (hrow.full (by simp) (by simp))
   clear hrow
   go_wp2
   go_ret
   exact ⟨_,rfl,HF.out,hbel⟩
end Go.Proofs.YtbljmfcifljkaaaGreatDoor
/-
  The delays of a circuit. Own work; printed by a program of my own (parCgC.py).
-/
namespace Go.Proofs.YtbljmfcifljkaaaGreatDoor
open Go.RowKit
set_option maxRecDepth 100000
set_option maxHeartbeats 1000000
def GtAt (w:World) (g:GtI) (b o:Nat):Prop :=
 w.cell? ⟨b,o,none⟩=some (.int .i64 g.kind)∧w.cell? ⟨b,o+1,none⟩=some (.int .i64 g.a)∧w.cell? ⟨b,o+2,none⟩=some (.int .i64 g.b)∧w.cell? ⟨b,o+3,none⟩=some (.int .i64 g.value)
def GtsAt (w:World) (v:Value) (gs:List GtI):Prop:=SlAt 4 v gs.length fun i b o=>∃ h:i<gs.length,GtAt w gs[i] b o
theorem GtAt.keep {w w':World} (hb:Below w.heap.size w w') {g:GtI} {b o:Nat} (h:GtAt w g b o):GtAt w' g b o:=⟨cell_keep hb h.1,cell_keep hb h.2.1,cell_keep hb h.2.2.1,cell_keep hb h.2.2.2⟩
theorem GtsAt.keep {w w':World} (hb:Below w.heap.size w w') {v:Value} {gs:List GtI} (h:GtsAt w v gs):GtsAt w' v gs:=SlAt.mono h fun _ _ _ ⟨hi,r⟩=>⟨hi,r.keep hb⟩
theorem GtsAt.slice {w:World} {v:Value} {gs:List GtI} (h:GtsAt w v gs):∃ a c,v=.slice a gs.length c∧gs.length≤c:=by obtain ⟨a,c,rfl,hc,_⟩:=h;exact ⟨a,c,rfl,hc⟩
def gt0:GtI:=⟨0,0,0,0⟩
def dlyN (gs:List GtI) (k:Nat):List Int:=((List.range k).filter fun i=>decide ((gs.getD i gt0).kind=5)).map fun i:Nat=>(i:Int)
def dlyL (gs:List GtI):List Int:=dlyN gs gs.length
theorem dlyN_yes {gs:List GtI} {k:Nat} (hk:k<gs.length) (h:gs[k].kind=5):dlyN gs (k+1)=dlyN gs k ++ [(k:Int)]:=by
 unfold dlyN
 rw [List.range_succ,List.filter_append,List.map_append,List.filter_cons_of_pos (by rw [List.getD_eq_getElem?_getD,List.getElem?_eq_getElem hk];simpa using h)]
 rfl
theorem dlyN_no {gs:List GtI} {k:Nat} (hk:k<gs.length) (h:¬ gs[k].kind=5):dlyN gs (k+1)=dlyN gs k:=by
 unfold dlyN
 rw [List.range_succ,List.filter_append,List.map_append,List.filter_cons_of_neg (by rw [List.getD_eq_getElem?_getD,List.getElem?_eq_getElem hk];simpa using h)]
 simp
theorem dlyN_len (gs:List GtI) (k:Nat):(dlyN gs k).length≤k:=by
 unfold dlyN
 rw [List.length_map]
 exact Nat.le_trans (List.length_filter_le _ _) (by simp)
theorem cg_nil (w:World) (B:Nat) (hB:B≤w.heap.size):Rw (w.alloc (.cells #[] 3)) B (.slice (some ⟨w.heap.size,0,none⟩) 0 0) [] :=
 ⟨rfl,.inr ⟨w.heap.size,0,#[],rfl,hB,Bk.new w _ _,Nat.le_refl _,by unfold maxLen;omega,rfl,rfl⟩⟩
theorem crDelays_any (inp:Int) (vo vg:Value) (gs:List GtI) (w:World) (hg:GtsAt w vg gs) (hl:gs.length≤1000) :
  Calls Tryz.prog 207 #[.agg #[.int .i64 inp,vg,vo]] w (RwP (dlyL gs) w):=by
 obtain ⟨a,cap,rfl,hc,hat⟩:=hg
 have hA:=alloc_below w (.cells #[.int .i64 inp,.slice a gs.length cap,vo] 112)
 go_enter Tryz.func207,Tryz.ntmps207
 go_wp2
 go_loopw [3,9] (fun rv i wr=>∃ k:Nat,k≤gs.length∧i=.int .i64 k∧Rw wr w.heap.size rv (dlyN gs k)∧Below w.heap.size w wr) (fun _ i _=>gs.length - (intOf i).toNat)
 case atStart=>exact ⟨0,Nat.zero_le _,rfl,World.ownsRow_nil _ _ _ _,hA⟩
 case round =>
  obtain ⟨k,hk,rfl,hrow,hbel⟩:=hrel
  by_cases hlk:k<gs.length
  ·obtain ⟨b,o,rfl,_,hgt⟩:=hat k hlk
   have hgt:=hgt.keep hbel
   obtain ⟨c0,c1,c2,c3⟩:=hgt
   have hno:=@dlyN_no gs k hlk
   have hyes:=@dlyN_yes gs k hlk
   have hll:=dlyN_len gs k
   obtain ⟨g,hgk⟩:∃ g,gs[k]=g:=⟨_,rfl⟩
   rw [hgk] at c0 c1 c2 c3 hno hyes
   obtain ⟨kd,ga,gb,gv⟩:=g
   simp only at c0 c1 c2 c3 hno hyes
   have bz:=cell_lt c0
   have hA2:=alloc_below wr (.cells #[.int .i64 kd,.int .i64 ga,.int .i64 gb,.int .i64 gv] 203)
   have hb2:=hbel.trans (hA2.mono hbel.size)
   have hrow2:=hrow.keep hA2
   obtain ⟨ar,cr,rfl⟩:=hrow.slice
   by_cases h5:kd=5
   ·subst h5
    have HSN:=Lib.hid (hyes rfl)
    have h1:=one_at (wr.alloc (.cells #[.int .i64 5,.int .i64 ga,.int .i64 gb,.int .i64 gv] 203)) k
    have hA3:=alloc_below (wr.alloc (.cells #[.int .i64 5,.int .i64 ga,.int .i64 gb,.int .i64 gv] 203)) (.cells #[.int .i64 k] 3)
    have hb3:=hb2.trans (hA3.mono hb2.size)
    have hrow3:=hrow2.keep hA3
    have hz3:(wr.alloc (.cells #[.int .i64 5,.int .i64 ga,.int .i64 gb,.int .i64 gv] 203)).heap.size=wr.heap.size+1:=by simp
    rw [hz3] at h1
    clear hno hyes hat hgk hrow hrow2 hA2 hA3
    go_wp2_with (at_builtin;go_must (refine ints_append h1 rfl (.tmp 17) (.tmp 19) rfl w.heap.size _ (dlyN gs k) rfl rfl hrow3 hb3.size (by simp only [List.length_singleton];omega) ?_);intro v2 w2 q1 q2 q3)
    have hb4:Below w.heap.size w w2:=hb3.grown q2 (by have:=hb3.size;omega) (fun j hj=>(World.ownsRow.lt hrow3 j hj).1)
    go_roundw
    case rel=>exact ⟨k+1,by omega,by go_num,by rw [HSN.out];exact q1,hb4⟩
    case measure=>simp [intOf];omega
   ·have HSN:=Lib.hid (hno h5)
    clear hno hyes hat hgk hrow
    go_wp2
    go_roundw
    case rel=>exact ⟨k+1,by omega,by go_num,by rw [HSN.out];exact hrow2,hb2⟩
    case measure=>simp [intOf];omega
  ·obtain rfl:k=gs.length:=by omega
   clear hat
   go_wp2
   go_ret
   exact ⟨_,rfl,hrow,hbel⟩
theorem delays_any (inp:Int) (vo vg:Value) (gs:List GtI) (w:World) (hg:GtsAt w vg gs) (hl:gs.length≤1000) :
  Calls Tryz.prog 148 #[.agg #[.int .i64 inp,vg,vo]] w (RwP (dlyL gs) w):=by
 obtain ⟨a,cap,rfl,hc,hat⟩:=hg
 have hA:=alloc_below w (.cells #[.int .i64 inp,.slice a gs.length cap,vo] 112)
 go_enter Tryz.func148,Tryz.ntmps148
 go_wp2
 go_loopw [3,10] (fun rv i wr=>∃ k:Nat,k≤gs.length∧i=.int .i64 k∧Rw wr w.heap.size rv (dlyN gs k)∧Below w.heap.size w wr) (fun _ i _=>gs.length - (intOf i).toNat)
 case atStart=>exact ⟨0,Nat.zero_le _,rfl,(by have h:=cg_nil _ _ hA.size;rw [World.size_alloc] at h;exact h),hA.trans ((alloc_below _ _).mono hA.size)⟩
 case round =>
  obtain ⟨k,hk,rfl,hrow,hbel⟩:=hrel
  by_cases hlk:k<gs.length
  ·obtain ⟨b,o,rfl,_,hgt⟩:=hat k hlk
   have hgt:=hgt.keep hbel
   obtain ⟨c0,c1,c2,c3⟩:=hgt
   have hno:=@dlyN_no gs k hlk
   have hyes:=@dlyN_yes gs k hlk
   have hll:=dlyN_len gs k
   obtain ⟨g,hgk⟩:∃ g,gs[k]=g:=⟨_,rfl⟩
   rw [hgk] at c0 c1 c2 c3 hno hyes
   obtain ⟨kd,ga,gb,gv⟩:=g
   simp only at c0 c1 c2 c3 hno hyes
   have bz:=cell_lt c0
   have hA2:=alloc_below wr (.cells #[.int .i64 kd,.int .i64 ga,.int .i64 gb,.int .i64 gv] 203)
   have hb2:=hbel.trans (hA2.mono hbel.size)
   have hrow2:=hrow.keep hA2
   obtain ⟨ar,cr,rfl⟩:=hrow.slice
   by_cases h5:kd=5
   ·subst h5
    have HSN:=Lib.hid (hyes rfl)
    have h1:=one_at (wr.alloc (.cells #[.int .i64 5,.int .i64 ga,.int .i64 gb,.int .i64 gv] 203)) k
    have hA3:=alloc_below (wr.alloc (.cells #[.int .i64 5,.int .i64 ga,.int .i64 gb,.int .i64 gv] 203)) (.cells #[.int .i64 k] 3)
    have hb3:=hb2.trans (hA3.mono hb2.size)
    have hrow3:=hrow2.keep hA3
    have hz3:(wr.alloc (.cells #[.int .i64 5,.int .i64 ga,.int .i64 gb,.int .i64 gv] 203)).heap.size=wr.heap.size+1:=by simp
    rw [hz3] at h1
    clear hno hyes hat hgk hrow hrow2 hA2 hA3
    go_wp2_with (at_builtin;go_must (refine ints_append h1 rfl (.tmp 18) (.tmp 20) rfl w.heap.size _ (dlyN gs k) rfl rfl hrow3 hb3.size (by simp only [List.length_singleton];omega) ?_);intro v2 w2 q1 q2 q3)
    have hb4:Below w.heap.size w w2:=hb3.grown q2 (by have:=hb3.size;omega) (fun j hj=>(World.ownsRow.lt hrow3 j hj).1)
    go_roundw
    case rel=>exact ⟨k+1,by omega,by go_num,by rw [HSN.out];exact q1,hb4⟩
    case measure=>simp [intOf];omega
   ·have HSN:=Lib.hid (hno h5)
    clear hno hyes hat hgk hrow
    go_wp2
    go_roundw
    case rel=>exact ⟨k+1,by omega,by go_num,by rw [HSN.out];exact hrow2,hb2⟩
    case measure=>simp [intOf];omega
  ·obtain rfl:k=gs.length:=by omega
   clear hat
   go_wp2
   go_ret
   exact ⟨_,rfl,hrow,hbel⟩
end Go.Proofs.YtbljmfcifljkaaaGreatDoor
/-
  Gates that are right in a circuit. Own work.
-/
namespace Go.Proofs.YtbljmfcifljkaaaGreatDoor
open Go.RowKit
set_option maxRecDepth 100000
set_option maxHeartbeats 1000000
def gatB (p inp:Int) (g:GtI):Bool :=
 if g.kind=1 then decide (g.a=0) && (decide (g.b=0) && inB g.value 0 (inp - 1))
 else if g.kind=2 then decide (g.a=0) && (decide (g.b=0) && decide (g.value=0))
 else if g.kind=3 then decide (g.value=0)
 else if g.kind=4 then decide (g.b=0) && inB g.value 0 (p - 1)
 else if g.kind=5 then decide (g.b=0) && decide (g.value=0)
 else false
def gateB (p inp:Int) (n:Nat) (g:GtI):Bool:=allB 0 ((n:Int) - 1) (opsG g) && gatB p inp g
theorem elB_inB (p v:Int):elB p v=inB v 0 (p - 1):=by
 unfold elB inB
 congr 1
 simp only [decide_eq_decide]
 omega
theorem beq_dec (x y:Int):(x == y)=decide (x=y):=by rw [Bool.eq_iff_iff];simp
theorem opsG_len (g:GtI):(opsG g).length≤2:=by
 unfold opsG
 split
 ·simp
 ·split <;> simp
theorem isGate_any (p inp:Int) (a:Option Addr) (n cap:Nat) (vo:Value) (g:GtI) (w:World) (hn:n≤1000) (hi:-1000≤inp∧inp≤1000000) :
  Calls Tryz.prog 275 #[.agg #[.int .i64 inp,.slice a n cap,vo],.int .i64 p,gtV g] w (FlP (gateB p inp n g) w):=by
 obtain ⟨k,ga,gb,gv⟩:=g
 have hA1:=alloc_below w (.cells #[.int .i64 inp,.slice a n cap,vo] 112)
 have hA2:=alloc_below (w.alloc (.cells #[.int .i64 inp,.slice a n cap,vo] 112)) (.cells #[.int .i64 k,.int .i64 ga,.int .i64 gb,.int .i64 gv] 203)
 have hA:=hA1.trans (hA2.mono hA1.size)
 have kC:=(Bk.new w 112 #[.int .i64 inp,.slice a n cap,vo]).keep hA2
 have kG:=Bk.new (w.alloc (.cells #[.int .i64 inp,.slice a n cap,vo] 112)) 203 #[.int .i64 k,.int .i64 ga,.int .i64 gb,.int .i64 gv]
 rw [World.size_alloc] at kG
 have hzW:((w.alloc (.cells #[.int .i64 inp,.slice a n cap,vo] 112)).alloc (.cells #[.int .i64 k,.int .i64 ga,.int .i64 gb,.int .i64 gv] 203)).heap.size=w.heap.size+1+1:=by simp
 have hol:=opsG_len ⟨k,ga,gb,gv⟩
 have HO:=Lib.hid (fun W=>operands_any ⟨k,ga,gb,gv⟩ W)
 obtain ⟨zs,hzs⟩:∃ zs,opsG ⟨k,ga,gb,gv⟩=zs:=⟨_,rfl⟩
 rw [hzs] at hol HO
 have HG:Hid (gateB p inp n ⟨k,ga,gb,gv⟩=(allB 0 ((n:Int) - 1) zs && gatB p inp ⟨k,ga,gb,gv⟩)):=Lib.hid (by unfold gateB;rw [hzs])
 simp only [gtV] at HO ⊢
 clear hzs
 go_enter Tryz.func275,Tryz.ntmps275
 go_wp2_with fail
 generalize (w.alloc (.cells #[.int .i64 inp,.slice a n cap,vo] 112)).alloc (.cells #[.int .i64 k,.int .i64 ga,.int .i64 gb,.int .i64 gv] 203)=W at kC kG hA hzW ⊢
 clear hA1 hA2
 obtain ⟨c0,cf,cz⟩:=kC.cell
 obtain ⟨d0,df,dz⟩:=kG.cell
 have c1:=c0 1
 have c0:=c0 0
 have d1:=d0 1
 have d2:=d0 2
 have d3:=d0 3
 have d0:=d0 0
 simp only [List.getElem?_toArray,List.getElem?_cons_zero,List.getElem?_cons_succ] at c0 c1 d0 d1 d2 d3
 have upW:∀ {w':World},Exc NoT W.drew w' → Below W.heap.size W w':=fun h=>(Below.refl W.heap.size W).drew.trans (h.toBelow.mono (by simp))
 refine region_acts (C:=Exc (NoT) _) 6 [0,1,2,3,4,5,6] (by kernel_rfl) (by kernel_rfl) (Exc.grows _ _) (Exc.refl _ _) ?_
 iterate 1 (apply x_st rfl rfl rfl;(focus intro u hc' hf';go_simp <;> rfl);intro K hK;go_simp;apply hK;clear hK K)
 refine x_call rfl rfl rfl (Exc.grows _ _) (Exc.refl _ _) 219 (fun K hK=>?_);apply Exists.intro;refine ⟨fun w' hw'=>?_,fun wa hwa hbwa=>?_⟩;(focus go_simp;rfl);refine (HO.out _).mono ?_;rintro e w1 ⟨u,rfl,hu,hb1⟩;refine ⟨_,rfl,hb1,fun hx=>?_⟩;go_simp;apply hK;clear hK K
 obtain ⟨ua,uc,rfl⟩:=hu.slice
 iterate 3 (apply x_st rfl rfl rfl;(focus intro u hc' hf';go_simp <;> rfl);intro K hK;go_simp;apply hK;clear hK K)
 refine x_call rfl rfl rfl (Exc.grows _ _) (hx) 274 (fun K hK=>?_);apply Exists.intro;refine ⟨fun w' hw'=>?_,fun wb hwb hbwb=>?_⟩;(focus go_simp;rfl);refine (areBelow_any _ zs n _ (hu.at.keep hbwb) (by omega) (by omega)).mono ?_;rintro e w2 ⟨rfl,rfl⟩;refine ⟨_,rfl,Below.refl _ _,fun hx=>?_⟩;go_simp;apply hK;clear hK K
 iterate 1 (apply x_st rfl rfl rfl;(focus intro u hc' hf';go_simp <;> rfl);intro K hK;go_simp;apply hK;clear hK K)
 refine x_nil ?_
 have hbF:=upW hx
 have hB:=hA.trans (hbF.mono hA.size)
 replace c0:=cell_keep hbF c0
 replace d0:=cell_keep hbF d0
 replace d1:=cell_keep hbF d1
 replace d2:=cell_keep hbF d2
 replace d3:=cell_keep hbF d3
 have cz:=cell_lt c0
 have dz:=cell_lt d0
 have hw1:IntKind.i64.wrap (inp - 1)=inp - 1:=IntWalk.i64_in _ (by omega)
 clear hu hbF hx hA hbwa hbwb hwa hwb hb1 upW c1 kC kG cf df
 cases hall:allB 0 ((n:Int) - 1) zs with
 | false =>
  have HE:Hid (gateB p inp n ⟨k,ga,gb,gv⟩=false):=Lib.hid (by rw [HG.out,hall];rfl)
  clear hall
  go_wp2
  go_ret
  exact ⟨by rw [HE.out];rfl,hB⟩
 | true =>
  have HE:Hid (gateB p inp n ⟨k,ga,gb,gv⟩=gatB p inp ⟨k,ga,gb,gv⟩):=Lib.hid (by rw [HG.out,hall,Bool.true_and])
  clear hall HG
  by_cases h1:k=1
  ·subst h1
   have HF:Hid (gatB p inp ⟨1,ga,gb,gv⟩=(decide (ga=0) && (decide (gb=0) && inB gv 0 (inp - 1)))):=Lib.hid rfl
   by_cases ha:ga=0
   ·by_cases hb:gb=0
    ·subst ha hb
     go_wp2_with (go_at_call 128;refine (within_any _ _ _ _).mono ?_;rintro r w2 ⟨rfl,rfl⟩)
     go_ret
     exact ⟨by rw [HE.out,HF.out];simp,hB⟩
    ·have eb:(gb == 0)=false:=by simp [hb]
     subst ha
     go_wp2
     go_ret
     exact ⟨by rw [HE.out,HF.out];simp [hb],hB⟩
   ·have ea:(ga == 0)=false:=by simp [ha]
    go_wp2
    go_ret
    exact ⟨by rw [HE.out,HF.out];simp [ha],hB⟩
  have e1:(k == 1)=false:=by simp [h1]
  by_cases h2:k=2
  ·subst h2
   have HF:Hid (gatB p inp ⟨2,ga,gb,gv⟩=(decide (ga=0) && (decide (gb=0) && decide (gv=0)))):=Lib.hid rfl
   clear h1 e1
   by_cases ha:ga=0
   ·by_cases hb:gb=0
    ·by_cases hv:gv=0
     ·subst ha hb hv
      go_wp2
      go_ret
      exact ⟨by rw [HE.out,HF.out];rfl,hB⟩
     ·subst ha hb
      go_wp2
      go_ret
      exact ⟨by rw [HE.out,HF.out];simp [hv],hB⟩
    ·subst ha
     go_wp2
     go_ret
     exact ⟨by rw [HE.out,HF.out];simp [hb],hB⟩
   ·go_wp2
    go_ret
    exact ⟨by rw [HE.out,HF.out];simp [ha],hB⟩
  have e2:(k == 2)=false:=by simp [h2]
  by_cases h3:k=3
  ·subst h3
   have HF:Hid (gatB p inp ⟨3,ga,gb,gv⟩=decide (gv=0)):=Lib.hid rfl
   clear h1 e1 h2 e2
   go_wp2
   go_ret
   exact ⟨by rw [HE.out,HF.out];simp [beq_dec],hB⟩
  have e3:(k == 3)=false:=by simp [h3]
  by_cases h4:k=4
  ·subst h4
   have HF:Hid (gatB p inp ⟨4,ga,gb,gv⟩=(decide (gb=0) && inB gv 0 (p - 1))):=Lib.hid rfl
   clear h1 e1 h2 e2 h3 e3
   by_cases hb:gb=0
   ·subst hb
    go_wp2_with (go_at_call 90;refine (isElement_any _ _ _).mono ?_;rintro r w2 ⟨rfl,rfl⟩)
    go_ret
    exact ⟨by rw [HE.out,HF.out,elB_inB];simp,hB⟩
   ·have eb:(gb == 0)=false:=by simp [hb]
    go_wp2
    go_ret
    exact ⟨by rw [HE.out,HF.out];simp [hb],hB⟩
  have e4:(k == 4)=false:=by simp [h4]
  by_cases h5:k=5
  ·subst h5
   have HF:Hid (gatB p inp ⟨5,ga,gb,gv⟩=(decide (gb=0) && decide (gv=0))):=Lib.hid rfl
   clear h1 e1 h2 e2 h3 e3 h4 e4
   by_cases hb:gb=0
   ·subst hb
    go_wp2
    go_ret
    exact ⟨by rw [HE.out,HF.out];simp [beq_dec],hB⟩
   ·have eb:(gb == 0)=false:=by simp [hb]
    go_wp2
    go_ret
    exact ⟨by rw [HE.out,HF.out];simp [hb],hB⟩
  have e5:(k == 5)=false:=by simp [h5]
  have HF:Hid (gatB p inp ⟨k,ga,gb,gv⟩=false):=Lib.hid (by unfold gatB;simp [h1,h2,h3,h4,h5])
  clear h1 h2 h3 h4 h5
  go_wp2
  go_ret
  exact ⟨by rw [HE.out,HF.out];rfl,hB⟩
theorem gateB_b {p inp:Int} {n:Nat} {g:GtI} (hk:¬ g.kind=3) (hb:¬ g.b=0):gateB p inp n g=false:=by
 unfold gateB gatB
 split
 ·simp [hb]
 ·split
  ·simp [hb]
  ·simp [hk,hb]
theorem crGate_any (p inp:Int) (n:Nat) (g:GtI) (w:World) (hn:n≤1000) (hi:-1000≤inp∧inp≤1000000) (hp:-1000≤p∧p≤1000000) :
  Calls Tryz.prog 202 #[.int .i64 p,gtV g,.int .i64 inp,.int .i64 n] w (FlP (gateB p inp n g) w):=by
 obtain ⟨k,ga,gb,gv⟩:=g
 have hA:=alloc_below w (.cells #[.int .i64 k,.int .i64 ga,.int .i64 gb,.int .i64 gv] 203)
 have kG:=Bk.new w 203 #[.int .i64 k,.int .i64 ga,.int .i64 gb,.int .i64 gv]
 have hol:=opsG_len ⟨k,ga,gb,gv⟩
 have HO:=Lib.hid (fun W=>crOperands_any ⟨k,ga,gb,gv⟩ W)
 obtain ⟨zs,hzs⟩:∃ zs,opsG ⟨k,ga,gb,gv⟩=zs:=⟨_,rfl⟩
 rw [hzs] at hol HO
 have HG:Hid (gateB p inp n ⟨k,ga,gb,gv⟩=(allB 0 ((n:Int) - 1) zs && gatB p inp ⟨k,ga,gb,gv⟩)):=Lib.hid (by unfold gateB;rw [hzs])
 have HNB:=Lib.hid (@gateB_b p inp n ⟨k,ga,gb,gv⟩)
 simp only [gtV] at HO ⊢
 clear hzs
 have hwn:IntKind.i64.wrap ((n:Int) - 1)=(n:Int) - 1:=IntWalk.i64_in _ (by omega)
 have hwi:IntKind.i64.wrap (inp - 1)=inp - 1:=IntWalk.i64_in _ (by omega)
 have hwp:IntKind.i64.wrap (p - 1)=p - 1:=IntWalk.i64_in _ (by omega)
 go_enter Tryz.func202,Tryz.ntmps202
 go_wp2_with fail
 refine (HO.out _).mono ?_
 rintro e w1 ⟨u,rfl,hu,hb1⟩
 obtain ⟨ua,uc,rfl⟩:=hu.slice
 have kG1:=kG.keep hb1
 obtain ⟨d0,df,dz⟩:=kG1.cell
 have d1:=d0 1
 have d2:=d0 2
 have d3:=d0 3
 have d0:=d0 0
 simp only [List.getElem?_toArray,List.getElem?_cons_zero,List.getElem?_cons_succ] at d0 d1 d2 d3
 have hB:=hA.trans (hb1.mono hA.size)
 go_wp2_with fail
 refine (l1All_any _ zs _ _ _ hu.at (by omega)).mono ?_
 rintro e w2 ⟨rfl,rfl⟩
 clear hu hb1 kG kG1 df hA HO
 cases hall:allB 0 ((n:Int) - 1) zs with
 | false =>
  have HE:Hid (gateB p inp n ⟨k,ga,gb,gv⟩=false):=Lib.hid (by rw [HG.out,hall];rfl)
  clear hall
  go_wp2
  go_ret
  exact ⟨by rw [HE.out];rfl,hB⟩
 | true =>
  have HE:Hid (gateB p inp n ⟨k,ga,gb,gv⟩=gatB p inp ⟨k,ga,gb,gv⟩):=Lib.hid (by rw [HG.out,hall,Bool.true_and])
  clear hall HG
  by_cases h3:k=3
  ·subst h3
   have HF:Hid (gatB p inp ⟨3,ga,gb,gv⟩=decide (gv=0)):=Lib.hid rfl
   go_wp2
   go_ret
   exact ⟨by rw [HE.out,HF.out];simp [beq_dec],hB⟩
  have e3:(k == 3)=false:=by simp [h3]
  have n3:(k != 3)=true:=by simp [h3]
  by_cases hb:gb=0
  rotate_left
  ·have HF:=Lib.hid (HNB.out h3 hb)
   have eb:(gb != 0)=true:=by simp [hb]
   go_wp2
   go_ret
   exact ⟨by rw [HF.out];rfl,hB⟩
  subst hb
  by_cases h1:k=1
  ·subst h1
   have HF:Hid (gatB p inp ⟨1,ga,0,gv⟩=(inB gv 0 (inp - 1) && decide (ga=0))):=Lib.hid (by
    have:gatB p inp ⟨1,ga,0,gv⟩=(decide (ga=0) && (decide ((0:Int)=0) && inB gv 0 (inp - 1))):=rfl
    rw [this,Bool.and_comm];simp)
   clear h3 e3 n3 HNB
   cases hv:inB gv 0 (inp - 1) with
   | false =>
    have HV:=Lib.hid hv
    clear hv
    go_wp2_with (go_at_call 80;refine (l1In_any _ _ _ _).mono ?_;rintro r w2 ⟨rfl,rfl⟩;rw [HV.out])
    go_ret
    exact ⟨by rw [HE.out,HF.out,HV.out];rfl,hB⟩
   | true =>
    have HV:=Lib.hid hv
    clear hv
    go_wp2_with (go_at_call 80;refine (l1In_any _ _ _ _).mono ?_;rintro r w2 ⟨rfl,rfl⟩;rw [HV.out])
    go_ret
    exact ⟨by rw [HE.out,HF.out,HV.out];simp [beq_dec],hB⟩
  have e1:(k == 1)=false:=by simp [h1]
  by_cases h2:k=2
  ·subst h2
   have HF:Hid (gatB p inp ⟨2,ga,0,gv⟩=(decide (gv=0) && decide (ga=0))):=Lib.hid (by
    have:gatB p inp ⟨2,ga,0,gv⟩=(decide (ga=0) && (decide ((0:Int)=0) && decide (gv=0))):=rfl
    rw [this,Bool.and_comm];simp)
   clear h3 e3 n3 HNB h1 e1
   by_cases hv:gv=0
   ·subst hv
    go_wp2
    go_ret
    exact ⟨by rw [HE.out,HF.out];simp [beq_dec],hB⟩
   ·have ev:(gv == 0)=false:=by simp [hv]
    go_wp2
    go_ret
    exact ⟨by rw [HE.out,HF.out];simp [hv],hB⟩
  have e2:(k == 2)=false:=by simp [h2]
  by_cases h4:k=4
  ·subst h4
   have HF:Hid (gatB p inp ⟨4,ga,0,gv⟩=inB gv 0 (p - 1)):=Lib.hid (by
    have:gatB p inp ⟨4,ga,0,gv⟩=(decide ((0:Int)=0) && inB gv 0 (p - 1)):=rfl
    rw [this];simp)
   clear h3 e3 n3 HNB h1 e1 h2 e2
   go_wp2_with (go_at_call 80;refine (l1In_any _ _ _ _).mono ?_;rintro r w2 ⟨rfl,rfl⟩)
   go_ret
   exact ⟨by rw [HE.out,HF.out];rfl,hB⟩
  have e4:(k == 4)=false:=by simp [h4]
  by_cases h5:k=5
  ·subst h5
   have HF:Hid (gatB p inp ⟨5,ga,0,gv⟩=decide (gv=0)):=Lib.hid (by
    have:gatB p inp ⟨5,ga,0,gv⟩=(decide ((0:Int)=0) && decide (gv=0)):=rfl
    rw [this];simp)
   clear h3 e3 n3 HNB h1 e1 h2 e2 h4 e4
   go_wp2
   go_ret
   exact ⟨by rw [HE.out,HF.out];simp [beq_dec],hB⟩
  have e5:(k == 5)=false:=by simp [h5]
  have HF:Hid (gatB p inp ⟨k,ga,0,gv⟩=false):=Lib.hid (by unfold gatB;simp [h1,h2,h3,h4,h5])
  clear h1 h2 h3 h4 h5
  go_wp2
  go_ret
  exact ⟨by rw [HE.out,HF.out];rfl,hB⟩
end Go.Proofs.YtbljmfcifljkaaaGreatDoor
