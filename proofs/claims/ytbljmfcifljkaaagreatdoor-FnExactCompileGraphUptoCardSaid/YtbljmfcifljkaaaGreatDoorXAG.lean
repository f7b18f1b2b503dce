/-
  Rows of numbers that the program makes for its graphs: zeros, upTo, from, clone, chosen, mapped. Own work.
-/
import Derived.Test.YtbljmfcifljkaaaGreatDoorXAF
import Derived.Test.YtbljmfcifljkaaaGreatDoorXAB
import Derived.Test.YtbljmfcifljkaaaGreatDoorXCB
import Derived.Test.YtbljmfcifljkaaaGreatDoorXAC
set_option linter.all false
set_option maxRecDepth 100000
set_option maxHeartbeats 8000000
namespace Go.Proofs.YtbljmfcifljkaaaGreatDoor
open Go.RowKit
set_option maxRecDepth 100000
set_option maxHeartbeats 4000000
def RwP (xs:List Int) (w:World) (e:Ending) (w':World):Prop:=∃ v,e=.returned v∧Rw w' w.heap.size v xs∧Below w.heap.size w w'
theorem zeros_any (n:Nat) (w:World) (hn:n≤100000):Calls Tryz.prog 221 #[.int .i64 n] w (RwP (List.replicate n 0) w):=by
 obtain ⟨i0,hi,hz0,hz1,hz2⟩:=info_parts infoInt
 go_enter Tryz.func221,Tryz.ntmps221
 go_wp2_with (at_make;refine wpList_make_full _ rfl _ _ _ rfl w.heap.size 3 i0 _ 1 Tryz.underlying40 hi hz0 hz1 _ _ _ _ n rfl rfl rfl rfl (by rw [hz2];omega) (by unfold maxLen;omega) (Nat.le_refl _) ?_;intro w1 hown hgr)
 have hz:=made_flat (f:=iCell) (0:Int) n (sz:=1) (by omega) rfl
 go_ret
 refine ⟨_,rfl,?_,(Below.refl _ _).grown hgr (Nat.le_refl _) (by simp)⟩
 unfold Rw
 rw [List.length_replicate,← hz]
 exact hown
def upL (n:Nat):List Int:=(List.range n).map fun i:Nat=>(i:Int)
theorem upL_len (n:Nat):(upL n).length=n:=by simp [upL]
theorem upL_get (n k:Nat) (h:k<(upL n).length):(upL n)[k]=(k:Int):=by simp [upL]
theorem Rw.at' {w:World} {B:Nat} {a:Addr} {n c:Nat} {xs:List Int} (h:Rw w B (.slice (some a) n c) xs):∃ g,a=⟨g,0,none⟩∧n=xs.length∧g<w.heap.size∧B≤g:=by
 rcases h.2 with ⟨h',_⟩|⟨g,cap,cur,h',hb,hg,_⟩
 ·simp at h'
 ·simp only [Value.slice.injEq,Option.some.injEq] at h'
  exact ⟨g,h'.1,h'.2.1,(Array.getElem?_eq_some_iff.1 hg).1,hb⟩
theorem take_up (xs ys:List Int) (k:Nat) (hl:ys.length=xs.length) (hk:k<xs.length):(xs.take k ++ ys.drop k).set k xs[k]=xs.take (k+1) ++ ys.drop (k+1):=by
 have h1:(xs.take k).length=k:=by rw [List.length_take];omega
 rw [List.set_append_right _ _ (by omega),h1,Nat.sub_self,List.drop_eq_getElem_cons (by omega:k<ys.length),List.set_cons_zero,List.take_succ_eq_append_getElem hk,List.append_assoc]
 rfl
theorem Rw.block {w:World} {B:Nat} {v:Value} {xs:List Int} (h:Rw w B v xs) (hx:0<xs.length):∃ g c,v=.slice (some ⟨g,0,none⟩) xs.length c∧g<w.heap.size∧B≤g:=by
 rcases h.2 with ⟨h',h0⟩|⟨g,cap,cur,h',hb,hg,_⟩
 ·omega
 ·exact ⟨g,cap,h',(Array.getElem?_eq_some_iff.1 hg).1,hb⟩
theorem Rw.fill {w:World} {B g c n k:Nat} {xs ys:List Int} (h:Rw w B (.slice (some ⟨g,0,none⟩) n c) (xs.take k ++ ys.drop k)) (hx:xs.length=n) (hy:ys.length=n) (hk:k<n) :
  (w.cell? ⟨g,k,none⟩=some (.int .i64 (ys[k]'(by omega)))∧w.frozen? ⟨g,k,none⟩=false)∧Rw (w.setCell ⟨g,k,none⟩ (.int .i64 (xs[k]'(by omega)))) B (.slice (some ⟨g,0,none⟩) n c) (xs.take (k+1) ++ ys.drop (k+1)):=by
 have hll:(xs.take k ++ ys.drop k).length=n:=by simp;omega
 have hrow2:w.ownsRow B 3 1 (.slice (some ⟨g,0,none⟩) n c) n ((xs.take k ++ ys.drop k).flatMap iCell):=by unfold Rw at h;rw [hll] at h;exact h
 have d0:=owns_cell iCell_len hrow2 k 0 (by omega) (by omega)
 have f0:=hrow2.frozenAt (k * 1)
 simp only [iCell,Nat.mul_one,Nat.add_zero,List.getElem?_cons_zero] at d0 f0
 have hset:=owns_set iCell_len hrow2 k 0 k (by omega) (by omega) (by omega) (.int .i64 (xs[k]'(by omega))) (xs[k]'(by omega)) rfl
 rw [take_up xs ys k (by omega) (by omega)] at hset
 have e1:(xs.take k ++ ys.drop k)[k]'(by omega)=ys[k]'(by omega):=by
  rw [List.getElem_append_right (by simp;omega)]
  simp only [List.length_take,List.getElem_drop]
  congr 1;omega
 rw [e1] at d0
 refine ⟨⟨d0,f0⟩,?_⟩
 unfold Rw
 rw [show (xs.take (k+1) ++ ys.drop (k+1)).length=n by simp;omega]
 exact hset
theorem Rw.full {w:World} {B:Nat} {v:Value} {n:Nat} {xs ys:List Int} (h:Rw w B v (xs.take n ++ ys.drop n)) (hx:xs.length=n) (hy:ys.length=n):Rw w B v xs:=by
 rw [List.drop_of_length_le (by omega),List.append_nil,List.take_of_length_le (by omega)] at h
 exact h
theorem upTo_any (n:Nat) (w:World) (hn:n≤100000):Calls Tryz.prog 253 #[.int .i64 n] w (RwP (upL n) w):=by
 go_enter Tryz.func253,Tryz.ntmps253
 go_wp2_with fail
 refine (zeros_any n w hn).mono ?_
 rintro q w1 ⟨v,rfl,hr,hb⟩
 obtain ⟨a,c,rfl⟩:=hr.slice
 rw [List.length_replicate] at *
 go_wp2_with fail
 go_loopw [9] (fun i wr=>∃ k:Nat,k≤n∧i=.int .i64 k∧Rw wr w.heap.size (.slice a n c) ((upL n).take k ++ (List.replicate n (0:Int)).drop k)∧Below w.heap.size w wr) (fun i _=>n - (intOf i).toNat)
 case atStart=>exact ⟨0,Nat.zero_le _,rfl,by simpa using hr,hb⟩
 case round =>
  clear hr hb
  obtain ⟨k,hk,rfl,hrow,hbel⟩:=hrel
  by_cases hlt:k<n
  ·obtain ⟨g,c',e,hg,hBg⟩:=hrow.block (by simp;omega)
   simp only [Value.slice.injEq] at e
   obtain ⟨rfl,-,rfl⟩:=e
   obtain ⟨⟨d0,f0⟩,hset⟩:=hrow.fill (upL_len n) (by simp) hlt
   rw [upL_get] at hset
   rw [List.getElem_replicate] at d0
   have HS:=Lib.hid hset
   clear hrow hset
   go_wp2
   go_roundw
   case rel=>exact ⟨k+1,by omega,by go_num,HS.out,hbel.setCell hBg _⟩
   case measure=>simp [intOf];omega
  ·obtain rfl:k=n:=by omega
   have HF:=Lib.hid (hrow.full (upL_len _) (by simp))
   clear hrow
   go_wp2
   go_ret
   exact ⟨_,rfl,HF.out,hbel⟩
end Go.Proofs.YtbljmfcifljkaaaGreatDoor
/-
  Lists of wires renamed: chosen, mapped, hgList. Own work.
-/
namespace Go.Proofs.YtbljmfcifljkaaaGreatDoor
open Go.RowKit
set_option maxRecDepth 100000
set_option maxHeartbeats 4000000
def pickL (tz ks:List Int):List Int:=ks.map fun k=>tz.getD k.toNat 0
theorem pickL_len (tz ks:List Int):(pickL tz ks).length=ks.length:=by simp [pickL]
theorem pickL_snoc (tz ks:List Int) (i:Nat) (h:i<ks.length):pickL tz (ks.take (i+1))=pickL tz (ks.take i) ++ [tz.getD ks[i].toNat 0]:=by
 unfold pickL
 rw [List.take_succ_eq_append_getElem h,List.map_append];rfl
theorem one_at (w:World) (z:Int):IntsAt (w.alloc (.cells #[.int .i64 z] 3)) (.slice (some ⟨w.heap.size,0,none⟩) 1 1) [z]:=by
 refine ⟨_,_,rfl,Nat.le_refl _,fun i hi=>⟨_,_,rfl,hi,?_⟩⟩
 obtain rfl:i=0:=by simpa using hi
 exact (Bk.new w _ _).cell.1 0
theorem hgList_any (vt va:Value) (tz ks:List Int) (w:World) (ht:IntsAt w vt tz) (ha:IntsAt w va ks) (hin:∀ k ∈ ks,0≤k∧k<tz.length) (hl:ks.length≤100000) (hlt:tz.length≤100000) :
  Calls Tryz.prog 201 #[va,vt] w (RwP (pickL tz ks) w):=by
 obtain ⟨a,c,rfl,hc,hata⟩:=ha
 obtain ⟨p,d,rfl,hd,hatt⟩:=ht
 have HIN:=Lib.hid hin
 clear hin
 go_enter Tryz.func201,Tryz.ntmps201
 go_wp2
 go_loopw [5,10] (fun rv i wr=>∃ k:Nat,k≤ks.length∧i=.int .i64 k∧Rw wr w.heap.size rv (pickL tz (ks.take k))∧Below w.heap.size w wr) (fun _ i _=>ks.length - (intOf i).toNat)
 case atStart=>exact ⟨0,Nat.zero_le _,rfl,World.ownsRow_nil _ _ _ _,Below.refl _ _⟩
 case round =>
  obtain ⟨k,hk,rfl,hrow,hbel⟩:=hrel
  by_cases hlk:k<ks.length
  ·obtain ⟨b,o,rfl,_,c0⟩:=hata k hlk
   rw [Nat.mul_one] at c0
   have hr:=HIN.out _ (List.getElem_mem hlk)
   have hsn:=pickL_snoc tz ks k hlk
   obtain ⟨z,hz⟩:∃ z,ks[k]=z:=⟨_,rfl⟩
   rw [hz] at c0 hr hsn
   obtain ⟨m,rfl⟩:∃ m:Nat,z=m:=⟨z.toNat,by omega⟩
   have hm:m<tz.length:=by omega
   obtain ⟨b2,o2,rfl,_,e0⟩:=hatt m hm
   rw [Nat.mul_one] at e0
   have hgd:tz.getD (m:Int).toNat 0=tz[m]:=by rw [Int.toNat_natCast,List.getD_eq_getElem?_getD,List.getElem?_eq_getElem hm];rfl
   rw [hgd] at hsn
   obtain ⟨x,hx⟩:∃ x,tz[m]=x:=⟨_,rfl⟩
   rw [hx] at e0 hsn
   have HSN:=Lib.hid hsn
   replace c0:=cell_keep hbel c0
   replace e0:=cell_keep hbel e0
   have bz:=cell_lt c0
   have bz2:=cell_lt e0
   have hA:=alloc_below wr (.cells #[.int .i64 x] 3)
   have h1:=one_at wr x
   have hrow2:=hrow.keep hA
   have hzz:=hbel.size
   obtain ⟨ar,cr,rfl⟩:=hrow.slice
   have hpl:(pickL tz (ks.take k)).length≤100000:=by rw [pickL_len,List.length_take];omega
   clear hata hatt hsn hz hx hgd
   go_wp2_with (at_builtin;refine ints_append h1 rfl (.tmp 14) (.tmp 19) rfl w.heap.size _ (pickL tz (ks.take k)) rfl rfl hrow2 (by simp;omega) (by simp;omega) ?_;intro v2 w2 q1 q2 q3)
   have hb2:Below w.heap.size w w2:=(hbel.trans (hA.mono hzz)).grown q2 (by have:=hA.size;omega) (fun j hj=>(World.ownsRow.lt hrow2 j hj).1)
   go_roundw
   case rel=>exact ⟨k+1,by omega,by go_num,by rw [HSN.out];exact q1,hb2⟩
   case measure=>simp [intOf];omega
  ·obtain rfl:k=ks.length:=by omega
   rw [List.take_length] at hrow
   clear hata hatt
   go_wp2
   go_ret
   exact ⟨_,rfl,hrow,hbel⟩
end Go.Proofs.YtbljmfcifljkaaaGreatDoor
/-
  Gates: what they need. Own work.
-/
namespace Go.Proofs.YtbljmfcifljkaaaGreatDoor
open Go.RowKit
set_option maxRecDepth 100000
set_option maxHeartbeats 1000000
structure GtI where
 kind:Int
 a:Int
 b:Int
 value:Int
 deriving DecidableEq
def gtV (g:GtI):Value:=.agg #[.int .i64 g.kind,.int .i64 g.a,.int .i64 g.b,.int .i64 g.value]
def gtCells (g:GtI):List Value:=[.int .i64 g.kind,.int .i64 g.a,.int .i64 g.b,.int .i64 g.value]
def cmbB (g:GtI):Bool:=decide (g.kind=3) || decide (g.kind=4)
def opsG (g:GtI):List Int:=if g.kind=3 then [g.a,g.b] else if g.kind=4∨g.kind=5 then [g.a] else []
def ndsG (g:GtI):List Int:=if cmbB g=true then opsG g else []
theorem cg_two (w:World) (B:Nat) (x y:Int) (hB:B≤w.heap.size):Rw (w.alloc (.cells #[.int .i64 x,.int .i64 y] 3)) B (.slice (some ⟨w.heap.size,0,none⟩) 2 2) [x,y] :=
 ⟨rfl,.inr ⟨w.heap.size,2,#[.int .i64 x,.int .i64 y],rfl,hB,Bk.new w _ _,Nat.le_refl _,by unfold maxLen;omega,rfl,rfl⟩⟩
theorem cg_one (w:World) (B:Nat) (x:Int) (hB:B≤w.heap.size):Rw (w.alloc (.cells #[.int .i64 x] 3)) B (.slice (some ⟨w.heap.size,0,none⟩) 1 1) [x] :=
 ⟨rfl,.inr ⟨w.heap.size,1,#[.int .i64 x],rfl,hB,Bk.new w _ _,Nat.le_refl _,by unfold maxLen;omega,rfl,rfl⟩⟩
theorem operands_any (g:GtI) (w:World):Calls Tryz.prog 219 #[gtV g] w (RwP (opsG g) w):=by
 unfold gtV
 obtain ⟨k,a,b,v⟩:=g
 have hA:=alloc_below w (.cells #[.int .i64 k,.int .i64 a,.int .i64 b,.int .i64 v] 203)
 have hz:(w.alloc (.cells #[.int .i64 k,.int .i64 a,.int .i64 b,.int .i64 v] 203)).heap.size=w.heap.size+1:=by simp
 by_cases h3:k=3
 ·subst h3
  have HE:Hid (opsG ⟨3,a,b,v⟩=[a,b]):=Lib.hid rfl
  go_enter Tryz.func219,Tryz.ntmps219
  go_wp2
  go_ret
  rw [HE.out]
  exact ⟨_,rfl,(by have h:=cg_two (w.alloc (.cells #[.int .i64 3,.int .i64 a,.int .i64 b,.int .i64 v] 203)) w.heap.size a b (by simp);rw [hz] at h;exact h),hA.trans ((alloc_below _ _).mono hA.size)⟩
 by_cases h4:k=4
 ·subst h4
  have HE:Hid (opsG ⟨4,a,b,v⟩=[a]):=Lib.hid rfl
  clear h3
  go_enter Tryz.func219,Tryz.ntmps219
  go_wp2
  go_ret
  rw [HE.out]
  exact ⟨_,rfl,(by have h:=cg_one (w.alloc (.cells #[.int .i64 4,.int .i64 a,.int .i64 b,.int .i64 v] 203)) w.heap.size a (by simp);rw [hz] at h;exact h),hA.trans ((alloc_below _ _).mono hA.size)⟩
 by_cases h5:k=5
 ·subst h5
  have HE:Hid (opsG ⟨5,a,b,v⟩=[a]):=Lib.hid rfl
  clear h3 h4
  go_enter Tryz.func219,Tryz.ntmps219
  go_wp2
  go_ret
  rw [HE.out]
  exact ⟨_,rfl,(by have h:=cg_one (w.alloc (.cells #[.int .i64 5,.int .i64 a,.int .i64 b,.int .i64 v] 203)) w.heap.size a (by simp);rw [hz] at h;exact h),hA.trans ((alloc_below _ _).mono hA.size)⟩
 have HE:Hid (opsG ⟨k,a,b,v⟩=[]):=Lib.hid (by unfold opsG;simp [h3,h4,h5])
 go_enter Tryz.func219,Tryz.ntmps219
 go_wp2
 go_ret
 rw [HE.out]
 exact ⟨_,rfl,⟨by simp,.inl ⟨rfl,rfl⟩⟩,hA⟩
theorem crOperands_any (g:GtI) (w:World):Calls Tryz.prog 268 #[gtV g] w (RwP (opsG g) w):=by
 unfold gtV
 obtain ⟨k,a,b,v⟩:=g
 have hA:=alloc_below w (.cells #[.int .i64 k,.int .i64 a,.int .i64 b,.int .i64 v] 203)
 have hz:(w.alloc (.cells #[.int .i64 k,.int .i64 a,.int .i64 b,.int .i64 v] 203)).heap.size=w.heap.size+1:=by simp
 by_cases h3:k=3
 ·subst h3
  have HE:Hid (opsG ⟨3,a,b,v⟩=[a,b]):=Lib.hid rfl
  go_enter Tryz.func268,Tryz.ntmps268
  go_wp2
  go_ret
  rw [HE.out]
  exact ⟨_,rfl,(by have h:=cg_two (w.alloc (.cells #[.int .i64 3,.int .i64 a,.int .i64 b,.int .i64 v] 203)) w.heap.size a b (by simp);rw [hz] at h;exact h),hA.trans ((alloc_below _ _).mono hA.size)⟩
 by_cases h4:k=4
 ·subst h4
  have HE:Hid (opsG ⟨4,a,b,v⟩=[a]):=Lib.hid rfl
  clear h3
  go_enter Tryz.func268,Tryz.ntmps268
  go_wp2
  go_ret
  rw [HE.out]
  exact ⟨_,rfl,(by have h:=cg_one (w.alloc (.cells #[.int .i64 4,.int .i64 a,.int .i64 b,.int .i64 v] 203)) w.heap.size a (by simp);rw [hz] at h;exact h),hA.trans ((alloc_below _ _).mono hA.size)⟩
 by_cases h5:k=5
 ·subst h5
  have HE:Hid (opsG ⟨5,a,b,v⟩=[a]):=Lib.hid rfl
  clear h3 h4
  go_enter Tryz.func268,Tryz.ntmps268
  go_wp2
  go_ret
  rw [HE.out]
  exact ⟨_,rfl,(by have h:=cg_one (w.alloc (.cells #[.int .i64 5,.int .i64 a,.int .i64 b,.int .i64 v] 203)) w.heap.size a (by simp);rw [hz] at h;exact h),hA.trans ((alloc_below _ _).mono hA.size)⟩
 have HE:Hid (opsG ⟨k,a,b,v⟩=[]):=Lib.hid (by unfold opsG;simp [h3,h4,h5])
 go_enter Tryz.func268,Tryz.ntmps268
 go_wp2
 go_ret
 rw [HE.out]
 exact ⟨_,rfl,⟨by simp,.inl ⟨rfl,rfl⟩⟩,hA⟩
theorem crCombines_any (g:GtI) (w:World):Calls Tryz.prog 203 #[gtV g] w (FlP (cmbB g) w):=by
 unfold gtV
 obtain ⟨k,a,b,v⟩:=g
 have hA:=alloc_below w (.cells #[.int .i64 k,.int .i64 a,.int .i64 b,.int .i64 v] 203)
 have HE:Hid (cmbB ⟨k,a,b,v⟩=(decide (k=3) || decide (k=4))):=Lib.hid rfl
 by_cases h3:k=3
 ·go_enter Tryz.func203,Tryz.ntmps203
  go_wp2
  go_ret
  exact ⟨by rw [HE.out];by_cases h4:k=4 <;> simp [h3,h4],by first|exact hA|(subst h3;exact hA)⟩
 ·go_enter Tryz.func203,Tryz.ntmps203
  go_wp2
  go_ret
  exact ⟨by rw [HE.out];by_cases h4:k=4 <;> simp [h3,h4],by first|exact hA|(subst h3;exact hA)⟩
theorem needs_any (g:GtI) (w:World):Calls Tryz.prog 220 #[gtV g] w (RwP (ndsG g) w):=by
 obtain ⟨k,a,b,v⟩:=g
 have ho:=operands_any ⟨k,a,b,v⟩ (w.alloc (.cells #[.int .i64 k,.int .i64 a,.int .i64 b,.int .i64 v] 203))
 simp only [gtV] at ho ⊢
 have HO:=Lib.hid ho
 clear ho
 have hA:=alloc_below w (.cells #[.int .i64 k,.int .i64 a,.int .i64 b,.int .i64 v] 203)
 cases hc:cmbB ⟨k,a,b,v⟩ with
 | true =>
  have HE:Hid (ndsG ⟨k,a,b,v⟩=opsG ⟨k,a,b,v⟩):=Lib.hid (by unfold ndsG;rw [if_pos hc])
  have hc':k=3∨k=4:=by simpa [cmbB] using hc
  clear hc
  rcases hc' with rfl|rfl
  ·go_enter Tryz.func220,Tryz.ntmps220
   go_wp2_with fail
   refine HO.out.mono ?_
   rintro e w1 ⟨u,rfl,hu,hb⟩
   go_wp2
   go_ret
   rw [HE.out]
   exact ⟨_,rfl,owns_mono (by simp) hu,hA.trans (hb.mono (by simp))⟩
  ·go_enter Tryz.func220,Tryz.ntmps220
   go_wp2_with fail
   refine HO.out.mono ?_
   rintro e w1 ⟨u,rfl,hu,hb⟩
   go_wp2
   go_ret
   rw [HE.out]
   exact ⟨_,rfl,owns_mono (by simp) hu,hA.trans (hb.mono (by simp))⟩
 | false =>
  have HE:Hid (ndsG ⟨k,a,b,v⟩=[]):=Lib.hid (by unfold ndsG;simp [hc])
  have hc':¬ k=3∧¬ k=4:=by simpa [cmbB] using hc
  obtain ⟨h3,h4⟩:=hc'
  have e3:(k == 3)=false:=by simp [h3]
  have e4:(k == 4)=false:=by simp [h4]
  clear hc
  go_enter Tryz.func220,Tryz.ntmps220
  go_wp2
  go_ret
  rw [HE.out]
  exact ⟨_,rfl,⟨by simp,.inl ⟨rfl,rfl⟩⟩,hA⟩
end Go.Proofs.YtbljmfcifljkaaaGreatDoor
/-
  Walks: joinWires, tmLeaf, tmArity. Own work.
-/
namespace Go.Proofs.YtbljmfcifljkaaaGreatDoor
open Go.RowKit
def Sm (a:W2):Prop:=0≤a.1∧a.1≤12∧0≤a.2∧a.2≤12
theorem tmLeaf_any (n:Nd) (w:World) :
  Calls Tryz.prog 106 #[.agg #[.int .i64 n.kind,.int .i64 n.value,.string n.name]] w fun e w'=>e=.returned (.bool (leafB n))∧Below w.heap.size w w':=by
 by_cases he:n.name=ByteArray.empty
 ·have h0:n.name.toList=[]:=(toList_nil_iff_emptyBytes _).2 he
  have g0:(!n.name.toList.isEmpty)=false:=by simp [h0]
  by_cases hin:1≤n.kind∧n.kind≤14
  ·have gi:inB n.kind 1 14=true:=by simp [inB];omega
   have a1:decide (1≤n.kind)=true:=by simp;omega
   have a2:decide (n.kind≤14)=true:=by simp;omega
   by_cases h1:n.kind=1
   ·have g1:(n.kind == 1)=true:=by simp [h1]
    have HR:=Lib.hid (show leafB n=inB n.value 0 12 by simp [leafB,he,h1,inB])
    clear h1 he h0 a1 a2
    go_enter Tryz.func106,Tryz.ntmps106
    go_wp2_with (go_at_call 80;refine (l1In_any _ _ _ _).mono ?_;rintro e w2 ⟨rfl,rfl⟩)
    go_ret
    exact ⟨ret_bool HR.out.symm,(Below.refl _ _).alloc (Nat.le_refl _) _⟩
   have g1:(n.kind == 1)=false:=by simp [h1]
   by_cases h7:n.kind=7
   ·have g7:(n.kind == 7)=true:=by simp [h7]
    have HR:=Lib.hid (show leafB n=inB n.value 0 96 by simp [leafB,he,h7,inB])
    clear h1 he h0 a1 a2 h7
    go_enter Tryz.func106,Tryz.ntmps106
    go_wp2_with (go_at_call 80;refine (l1In_any _ _ _ _).mono ?_;rintro e w2 ⟨rfl,rfl⟩)
    go_ret
    exact ⟨ret_bool HR.out.symm,(Below.refl _ _).alloc (Nat.le_refl _) _⟩
   have g7:(n.kind == 7)=false:=by simp [h7]
   by_cases h13:n.kind=13
   ·have g13:(n.kind == 13)=true:=by simp [h13]
    have HR:=Lib.hid (show leafB n=inB n.value 0 96 by simp [leafB,he,h13,inB])
    clear h1 he h0 a1 a2 h7 h13
    go_enter Tryz.func106,Tryz.ntmps106
    go_wp2_with (go_at_call 80;refine (l1In_any _ _ _ _).mono ?_;rintro e w2 ⟨rfl,rfl⟩)
    go_ret
    exact ⟨ret_bool HR.out.symm,(Below.refl _ _).alloc (Nat.le_refl _) _⟩
   have g13:(n.kind == 13)=false:=by simp [h13]
   have HR:=Lib.hid (show leafB n=(n.value == 0) by unfold leafB;rw [a1,a2,if_neg h1,if_neg (by omega)];simp [he];rfl)
   clear h1 he h0 a1 a2 h7 h13
   go_enter Tryz.func106,Tryz.ntmps106
   go_wp2_with (go_at_call 80;refine (l1In_any _ _ _ _).mono ?_;rintro e w2 ⟨rfl,rfl⟩)
   go_ret
   exact ⟨ret_bool HR.out.symm,(Below.refl _ _).alloc (Nat.le_refl _) _⟩
  ·have gi:inB n.kind 1 14=false:=by simp [inB];omega
   have HR:=Lib.hid (show leafB n=false by
    unfold leafB
    have a1:(decide (1≤n.kind) && decide (n.kind≤14))=false:=by simp;omega
    simp only [Bool.and_assoc]
    rw [← Bool.and_assoc (decide (1≤n.kind)),a1]
    simp)
   clear he h0
   go_enter Tryz.func106,Tryz.ntmps106
   go_wp2_with (go_at_call 80;refine (l1In_any _ _ _ _).mono ?_;rintro e w2 ⟨rfl,rfl⟩)
   go_ret
   exact ⟨ret_bool HR.out.symm,(Below.refl _ _).alloc (Nat.le_refl _) _⟩
 ·have g0:(!n.name.toList.isEmpty)=true:=by simpa using fun h=>he ((toList_nil_iff_emptyBytes _).1 h)
  have HR:=Lib.hid (show leafB n=false by simp [leafB,he])
  clear he
  go_enter Tryz.func106,Tryz.ntmps106
  go_wp2
  go_ret
  exact ⟨ret_bool HR.out.symm,(Below.refl _ _).alloc (Nat.le_refl _) _⟩
end Go.Proofs.YtbljmfcifljkaaaGreatDoor
/-
  Valid graphs, the reference's: l1All, hgEdge. Own work.
-/
namespace Go.Proofs.YtbljmfcifljkaaaGreatDoor
open Go.RowKit
set_option maxRecDepth 100000
set_option maxHeartbeats 4000000
def allB (lo hi:Int) (zs:List Int):Bool:=zs.all fun z=>inB z lo hi
theorem l1All_any (v:Value) (zs:List Int) (lo hi:Int) (w:World) (hv:IntsAt w v zs) (hn:zs.length≤1048576) :
  Calls Tryz.prog 198 #[v,.int .i64 lo,.int .i64 hi] w fun e w'=>e=.returned (.bool (allB lo hi zs))∧w=w':=by
 obtain ⟨a,cap,rfl,hc,hat⟩:=hv
 go_enter Tryz.func198,Tryz.ntmps198
 go_wp2
 go_loopw [11] (fun i wr=>∃ k:Nat,k≤zs.length∧i=.int .i64 k∧wr=w∧∀ j,∀ h:j<zs.length,j<k → inB (zs[j]'h) lo hi=true) (fun i _=>zs.length - (intOf i).toNat)
 case atStart=>exact ⟨0,Nat.zero_le _,rfl,by first|rfl|trivial,fun j h1 h2=>by omega⟩
 case round =>
  obtain ⟨k,hk,rfl,hww,hall⟩:=hrel
  subst hww
  have HALL:=Lib.hid hall
  clear hall
  by_cases hlt:k<zs.length
  ·obtain ⟨b,o,rfl,_,c0⟩:=hat k hlt
   rw [Nat.mul_one] at c0
   have bz:=cell_lt c0
   cases hb:inB zs[k] lo hi with
   | false =>
    have hfin:allB lo hi zs=false:=List.all_eq_false.2 ⟨_,List.getElem_mem hlt,by simp [hb]⟩
    have HF:=Lib.hid hfin
    have HB:=Lib.hid hb
    clear hfin hb hat
    go_wp2_with (go_at_call 80;refine (l1In_any _ _ _ _).mono ?_;rintro r w2 ⟨rfl,rfl⟩;rw [HB.out])
    go_ret
    exact ⟨by rw [HF.out];rfl,rfl⟩
   | true =>
    have HB:=Lib.hid hb
    clear hb hat
    go_wp2_with (go_at_call 80;refine (l1In_any _ _ _ _).mono ?_;rintro r w2 ⟨rfl,rfl⟩;rw [HB.out])
    go_roundw
    case rel=>exact ⟨k+1,by omega,by go_num,by first|rfl|trivial,fun j h1 h2=>by
     rcases Nat.lt_or_ge j k with h|h
     ·exact HALL.out j h1 h
     ·obtain rfl:j=k:=by omega
      exact HB.out⟩
    case measure=>simp [intOf];omega
  ·obtain rfl:k=zs.length:=by omega
   have hfin:allB lo hi zs=true:=List.all_eq_true.2 fun z hz=>by obtain ⟨j,hj,rfl⟩:=List.mem_iff_getElem.1 hz;exact HALL.out j hj hj
   have HF:=Lib.hid hfin
   clear hfin hat
   go_wp2
   go_ret
   exact ⟨by rw [HF.out];rfl,rfl⟩
theorem allB_inG (n:Int) (zs:List Int):allB 0 (n - 1) zs=inG n zs:=rfl
theorem leaf_edB {e:EdI} (h:inB e.kind 3 14=true):leafB ⟨e.kind,e.value,⟨#[]⟩⟩=genValB e.kind e.value:=by
 have h2:3≤e.kind∧e.kind≤14:=by simpa [inB] using h
 unfold leafB genValB valB
 have e0:decide ((⟨#[]⟩:ByteArray)=ByteArray.empty)=true:=by decide
 simp only [e0,Bool.true_and]
 rw [decide_eq_true (show 1≤e.kind by omega),decide_eq_true h2.2,if_neg (show ¬ e.kind=1 by omega)]
 by_cases h7:e.kind=7∨e.kind=13
 ·rw [if_pos h7]
  rcases h7 with h7|h7 <;> simp [h7,inB]
 ·rw [if_neg h7]
  have h8:(e.kind == 7 || e.kind == 13)=false:=by simp;omega
  rw [h8]
  rw [Bool.eq_iff_iff];simp
def hgEdB (e:EdI) (n:Int):Bool:=edB e && (inG n e.ins && inG n e.outs)
theorem hgEdge_any (e:EdI) (n:Int) (vi vo:Value) (w:World) (hn:0≤n∧n≤100) (hi:IntsAt w vi e.ins) (ho:IntsAt w vo e.outs) (hok:EdOk e) :
  Calls Tryz.prog 266 #[.agg #[.int .i64 e.kind,.int .i64 e.value,vi,vo],.int .i64 n] w (FlP (hgEdB e n) w):=by
 obtain ⟨a1,q1,rfl⟩:=hi.slice
 obtain ⟨a2,q2,rfl⟩:=ho.slice
 have hA:=alloc_below w (.cells #[.int .i64 e.kind,.int .i64 e.value,.slice a1 e.ins.length q1,.slice a2 e.outs.length q2] 189)
 cases hk:inB e.kind 3 14 with
 | false =>
  have HK:=Lib.hid hk
  clear hk
  go_enter Tryz.func266,Tryz.ntmps266
  go_wp2_with (go_at_call 80;refine (l1In_any _ _ _ _).mono ?_;rintro r w2 ⟨rfl,rfl⟩;rw [HK.out])
  go_ret
  exact ⟨by unfold hgEdB edB;rw [HK.out];rfl,hA⟩
 | true =>
  have hlf:=leaf_edB hk
  have hLf:=tmLeaf_any ⟨e.kind,e.value,⟨#[]⟩⟩ (w.alloc (.cells #[.int .i64 e.kind,.int .i64 e.value,.slice a1 e.ins.length q1,.slice a2 e.outs.length q2] 189))
  rw [hlf] at hLf
  clear hlf
  have kE:=Bk.new w 189 #[.int .i64 e.kind,.int .i64 e.value,.slice a1 e.ins.length q1,.slice a2 e.outs.length q2]
  cases hv:genValB e.kind e.value with
  | false =>
   rw [hv] at hLf
   have HK:=Lib.hid (And.intro hk hv)
   clear hk hv
   go_enter Tryz.func266,Tryz.ntmps266
   go_wp2_with (first|(go_at_call 80;refine (l1In_any _ _ _ _).mono ?_;rintro r w2 ⟨rfl,rfl⟩;rw [HK.out.1])|(go_at_call 106;refine hLf.mono ?_;rintro r w2 ⟨rfl,hB2⟩))
   go_ret
   exact ⟨by unfold hgEdB edB;rw [HK.out.1,HK.out.2];rfl,hA.trans (hB2.mono hA.size)⟩
  | true =>
   rw [hv] at hLf
   obtain ⟨⟨k1,k2⟩,hK⟩:∃ p,kindW e.kind=p:=⟨_,rfl⟩
   have hkd:=fun u=>tmKind_any e.kind u
   rw [hK] at hkd
   have hE0:edB e=(decide (k1=(e.ins.length:Int)) && decide (k2=(e.outs.length:Int))):=by
    unfold edB;rw [hk,hv,hK];show (true && (true && decide _))=_;rw [Bool.true_and,Bool.true_and,← Bool.decide_and];exact decide_eq_decide.2 (by rw [Prod.mk.injEq])
   have h1:IntKind.i64.wrap (n - 1)=n - 1:=IntWalk.i64_in _ (by omega)
   have HK:=Lib.hid (And.intro hk hv)
   have HE:=Lib.hid hE0
   have HW:=Lib.hid h1
   clear hk hv hE0 hK h1
   have hi0:=hi.keep hA
   have ho0:=ho.keep hA
   have hAz:=hA.size
   obtain ⟨bA,hbA⟩:∃ b,allB 0 (n - 1) e.ins=b:=⟨_,rfl⟩
   have HA:=Lib.hid hbA
   clear hbA
   by_cases g1:k1=(e.ins.length:Int)
   all_goals by_cases g2:k2=(e.outs.length:Int)
   all_goals cases bA
   all_goals
    go_enter Tryz.func266,Tryz.ntmps266
    go_wp2_with (go_at_call 80;refine (l1In_any _ _ _ _).mono ?_;rintro r w2 ⟨rfl,rfl⟩;rw [HK.out.1])
    generalize (w.alloc (.cells #[.int .i64 e.kind,.int .i64 e.value,.slice a1 e.ins.length q1,.slice a2 e.outs.length q2] 189))=u0 at *
    refine hLf.mono ?_
    rintro r w2 ⟨rfl,hB2⟩
    replace kE:=kE.keep hB2
    replace hi0:=hi0.keep hB2
    replace ho0:=ho0.keep hB2
    replace hA:=hA.trans (hB2.mono hAz)
    clear hLf hB2 hAz hi ho
    obtain ⟨i0,-,-⟩:=kE.cell
    have d0:=i0 0
    have d2:=i0 2
    have d3:=i0 3
    simp at d0 d2 d3
    clear i0
    go_wp2_with (first|(go_at_call 169;refine (hkd _).mono ?_;rintro r w2 ⟨rfl,rfl⟩)|(go_at_call 198;refine (l1All_any _ _ _ _ _ (by first|exact hi0|exact ho0) (by first|exact hok.inn|exact hok.out)).mono ?_;rintro r w2 ⟨rfl,rfl⟩;(try rw [HA.out])))
    go_ret
    refine ⟨?_,hA⟩
    unfold hgEdB
    rw [HE.out,← allB_inG n e.ins,← allB_inG n e.outs,HA.out]
    first|simp [g1,g2]|(simp [g1];done)
end Go.Proofs.YtbljmfcifljkaaaGreatDoor
