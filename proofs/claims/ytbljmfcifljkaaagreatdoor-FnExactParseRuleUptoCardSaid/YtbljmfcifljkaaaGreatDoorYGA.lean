/-
  Rows of numbers that the program makes for its graphs: zeros, upTo, from, clone, chosen, mapped. Own work.
-/
import Derived.Test.YtbljmfcifljkaaaGreatDoorYSB
import Derived.Test.YtbljmfcifljkaaaGreatDoorYAF
set_option linter.all false
set_option maxRecDepth 100000
set_option maxHeartbeats 8000000
namespace Go.Proofs.YtbljmfcifljkaaaGreatDoor
open Go.RowKit
set_option maxRecDepth 100000
set_option maxHeartbeats 4000000
def RwP (xs:List Int) (w:World) (e:Ending) (w':World):Prop:=∃ v,e=.returned v∧Rw w' w.heap.size v xs∧Below w.heap.size w w'
theorem zeros_any (n:Nat) (w:World) (hn:n≤100000):Calls Tryz.prog 221 #[.int .i64 n] w (RwP (List.replicate n 0) w):=by
 obtain ⟨i0,hi,hz0,hz1,hz2⟩:=info_parts infoInt
 go_enter Tryz.func221,Tryz.ntmps221
 go_wp2_with (at_make;refine wpList_make_full _ rfl _ _ _ rfl w.heap.size 3 i0 _ 1 Tryz.underlying40 hi hz0 hz1 _ _ _ _ n rfl rfl rfl rfl (by rw [hz2];omega) (by unfold maxLen;omega) (Nat.le_refl _) ?_;intro w1 hown hgr)
 have hz:=made_flat (f:=iCell) (0:Int) n (sz:=1) (by omega) rfl
 go_ret
 refine ⟨_,rfl,?_,(Below.refl _ _).grown hgr (Nat.le_refl _) (by simp)⟩
 unfold Rw
 rw [List.length_replicate,← hz]
 exact hown
def upL (n:Nat):List Int:=(List.range n).map fun i:Nat=>(i:Int)
theorem upL_len (n:Nat):(upL n).length=n:=by simp [upL]
theorem upL_get (n k:Nat) (h:k<(upL n).length):(upL n)[k]=(k:Int):=by simp [upL]
theorem Rw.at' {w:World} {B:Nat} {a:Addr} {n c:Nat} {xs:List Int} (h:Rw w B (.slice (some a) n c) xs):∃ g,a=⟨g,0,none⟩∧n=xs.length∧g<w.heap.size∧B≤g:=by
 rcases h.2 with ⟨h',_⟩|⟨g,cap,cur,h',hb,hg,_⟩
 ·simp at h'
 ·simp only [Value.slice.injEq,Option.some.injEq] at h'
  exact ⟨g,h'.1,h'.2.1,(Array.getElem?_eq_some_iff.1 hg).1,hb⟩
theorem take_up (xs ys:List Int) (k:Nat) (hl:ys.length=xs.length) (hk:k<xs.length):(xs.take k ++ ys.drop k).set k xs[k]=xs.take (k+1) ++ ys.drop (k+1):=by
 have h1:(xs.take k).length=k:=by rw [List.length_take];omega
 rw [List.set_append_right _ _ (by omega),h1,Nat.sub_self,List.drop_eq_getElem_cons (by omega:k<ys.length),List.set_cons_zero,List.take_succ_eq_append_getElem hk,List.append_assoc]
 rfl
theorem Rw.block {w:World} {B:Nat} {v:Value} {xs:List Int} (h:Rw w B v xs) (hx:0<xs.length):∃ g c,v=.slice (some ⟨g,0,none⟩) xs.length c∧g<w.heap.size∧B≤g:=by
 rcases h.2 with ⟨h',h0⟩|⟨g,cap,cur,h',hb,hg,_⟩
 ·omega
 ·exact ⟨g,cap,h',(Array.getElem?_eq_some_iff.1 hg).1,hb⟩
theorem Rw.fill {w:World} {B g c n k:Nat} {xs ys:List Int} (h:Rw w B (.slice (some ⟨g,0,none⟩) n c) (xs.take k ++ ys.drop k)) (hx:xs.length=n) (hy:ys.length=n) (hk:k<n) :
  (w.cell? ⟨g,k,none⟩=some (.int .i64 (ys[k]'(by omega)))∧w.frozen? ⟨g,k,none⟩=false)∧Rw (w.setCell ⟨g,k,none⟩ (.int .i64 (xs[k]'(by omega)))) B (.slice (some ⟨g,0,none⟩) n c) (xs.take (k+1) ++ ys.drop (k+1)):=by
 have hll:(xs.take k ++ ys.drop k).length=n:=by simp;omega
 have hrow2:w.ownsRow B 3 1 (.slice (some ⟨g,0,none⟩) n c) n ((xs.take k ++ ys.drop k).flatMap iCell):=by unfold Rw at h;rw [hll] at h;exact h
 have d0:=owns_cell iCell_len hrow2 k 0 (by omega) (by omega)
 have f0:=hrow2.frozenAt (k * 1)
 simp only [iCell,Nat.mul_one,Nat.add_zero,List.getElem?_cons_zero] at d0 f0
 have hset:=owns_set iCell_len hrow2 k 0 k (by omega) (by omega) (by omega) (.int .i64 (xs[k]'(by omega))) (xs[k]'(by omega)) rfl
 rw [take_up xs ys k (by omega) (by omega)] at hset
 have e1:(xs.take k ++ ys.drop k)[k]'(by omega)=ys[k]'(by omega):=by
  rw [List.getElem_append_right (by simp;omega)]
  simp only [List.length_take,List.getElem_drop]
  congr 1;omega
 rw [e1] at d0
 refine ⟨⟨d0,f0⟩,?_⟩
 unfold Rw
 rw [show (xs.take (k+1) ++ ys.drop (k+1)).length=n by simp;omega]
 exact hset
theorem Rw.full {w:World} {B:Nat} {v:Value} {n:Nat} {xs ys:List Int} (h:Rw w B v (xs.take n ++ ys.drop n)) (hx:xs.length=n) (hy:ys.length=n):Rw w B v xs:=by
 rw [List.drop_of_length_le (by omega),List.append_nil,List.take_of_length_le (by omega)] at h
 exact h
theorem upTo_any (n:Nat) (w:World) (hn:n≤100000):Calls Tryz.prog 253 #[.int .i64 n] w (RwP (upL n) w):=by
 go_enter Tryz.func253,Tryz.ntmps253
 go_wp2_with fail
 refine (zeros_any n w hn).mono ?_
 rintro q w1 ⟨v,rfl,hr,hb⟩
 obtain ⟨a,c,rfl⟩:=hr.slice
 rw [List.length_replicate] at *
 go_wp2_with fail
 go_loopw [9] (fun i wr=>∃ k:Nat,k≤n∧i=.int .i64 k∧Rw wr w.heap.size (.slice a n c) ((upL n).take k ++ (List.replicate n (0:Int)).drop k)∧Below w.heap.size w wr) (fun i _=>n - (intOf i).toNat)
 case atStart=>exact ⟨0,Nat.zero_le _,rfl,by simpa using hr,hb⟩
 case round =>
  clear hr hb
  obtain ⟨k,hk,rfl,hrow,hbel⟩:=hrel
  by_cases hlt:k<n
  ·obtain ⟨g,c',e,hg,hBg⟩:=hrow.block (by simp;omega)
   simp only [Value.slice.injEq] at e
   obtain ⟨rfl,-,rfl⟩:=e
   obtain ⟨⟨d0,f0⟩,hset⟩:=hrow.fill (upL_len n) (by simp) hlt
   rw [upL_get] at hset
   rw [List.getElem_replicate] at d0
   have HS:=Lib.hid hset
   clear hrow hset
   go_wp2
   go_roundw
   case rel=>exact ⟨k+1,by omega,by go_num,HS.out,hbel.setCell hBg _⟩
   case measure=>simp [intOf];omega
  ·obtain rfl:k=n:=by omega
   have HF:=Lib.hid (hrow.full (upL_len _) (by simp))
   clear hrow
   go_wp2
   go_ret
   exact ⟨_,rfl,HF.out,hbel⟩
def fromL (a n:Nat):List Int:=(List.range n).map fun i:Nat=>((i+a:Nat):Int)
theorem fromL_len (a n:Nat):(fromL a n).length=n:=by simp [fromL]
theorem fromL_get (a n k:Nat) (h:k<(fromL a n).length):(fromL a n)[k]=((k+a:Nat):Int):=by simp [fromL]
theorem from_any (a n:Nat) (w:World) (hn:n≤100000) (ha:a≤100000):Calls Tryz.prog 249 #[.int .i64 a,.int .i64 n] w (RwP (fromL a n) w):=by
 go_enter Tryz.func249,Tryz.ntmps249
 go_wp2_with fail
 refine (upTo_any n w hn).mono ?_
 rintro q w1 ⟨v,rfl,hr,hb⟩
 obtain ⟨p,c,rfl⟩:=hr.slice
 rw [upL_len] at *
 go_wp2_with fail
 go_loopw [11] (fun i wr=>∃ k:Nat,k≤n∧i=.int .i64 k∧Rw wr w.heap.size (.slice p n c) ((fromL a n).take k ++ (upL n).drop k)∧Below w.heap.size w wr) (fun i _=>n - (intOf i).toNat)
 case atStart=>exact ⟨0,Nat.zero_le _,rfl,by simpa using hr,hb⟩
 case round =>
  clear hr hb
  obtain ⟨k,hk,rfl,hrow,hbel⟩:=hrel
  by_cases hlt:k<n
  ·obtain ⟨g,c',e,hg,hBg⟩:=hrow.block (by simp [fromL_len,upL_len];omega)
   simp only [Value.slice.injEq] at e
   obtain ⟨rfl,-,rfl⟩:=e
   obtain ⟨⟨d0,f0⟩,hset⟩:=hrow.fill (fromL_len a n) (upL_len n) hlt
   rw [fromL_get,Int.natCast_add] at hset
   rw [upL_get] at d0
   have hw:IntKind.i64.wrap ((k:Int)+a)=(k:Int)+a:=IntWalk.i64_in _ (by omega)
   have HS:=Lib.hid hset
   clear hrow hset
   go_wp2
   go_roundw
   case rel=>exact ⟨k+1,by omega,by go_num,HS.out,hbel.setCell hBg _⟩
   case measure=>simp [intOf];omega
  ·obtain rfl:k=n:=by omega
   have HF:=Lib.hid (hrow.full (fromL_len _ _) (upL_len _))
   clear hrow
   go_wp2
   go_ret
   exact ⟨_,rfl,HF.out,hbel⟩
theorem clone_any (v:Value) (zs:List Int) (w:World) (hv:IntsAt w v zs) (hn:zs.length≤100000):Calls Tryz.prog 247 #[v] w (RwP zs w):=by
 obtain ⟨a,c,rfl⟩:=hv.slice
 have hA:=alloc_below w (.cells #[] 3)
 have hr0:=ints_empty w w.heap.size w.heap.size rfl (Nat.le_refl _)
 have hv2:=hv.keep hA
 go_enter Tryz.func247,Tryz.ntmps247
 go_wp2_with (at_builtin;refine ints_append hv2 rfl (.tmp 3) (.tmp 4) rfl w.heap.size _ [] rfl rfl hr0 (by simp) (by simp;omega) ?_;intro v2 w2 h1 h2 h3)
 go_ret
 have hb2:Below w.heap.size w w2:=hA.grown h2 hA.size (fun j hj=>(World.ownsRow.lt hr0 j hj).1)
 exact ⟨_,rfl,by simpa using h1,hb2⟩
theorem l1Own_any (v:Value) (zs:List Int) (w:World) (hv:IntsAt w v zs) (hn:zs.length≤100000):Calls Tryz.prog 292 #[v] w (RwP zs w):=by
 obtain ⟨a,c,rfl⟩:=hv.slice
 have hA:=alloc_below w (.cells #[] 3)
 have hr0:=ints_empty w w.heap.size w.heap.size rfl (Nat.le_refl _)
 have hv2:=hv.keep hA
 go_enter Tryz.func292,Tryz.ntmps292
 go_wp2_with (at_builtin;refine ints_append hv2 rfl (.tmp 3) (.tmp 4) rfl w.heap.size _ [] rfl rfl hr0 (by simp) (by simp;omega) ?_;intro v2 w2 h1 h2 h3)
 go_ret
 have hb2:Below w.heap.size w w2:=hA.grown h2 hA.size (fun j hj=>(World.ownsRow.lt hr0 j hj).1)
 exact ⟨_,rfl,by simpa using h1,hb2⟩
end Go.Proofs.YtbljmfcifljkaaaGreatDoor
/-
  Lists of wires renamed: chosen, mapped, hgList. Own work.
-/
namespace Go.Proofs.YtbljmfcifljkaaaGreatDoor
open Go.RowKit
set_option maxRecDepth 100000
set_option maxHeartbeats 4000000
def pickL (tz ks:List Int):List Int:=ks.map fun k=>tz.getD k.toNat 0
theorem pickL_len (tz ks:List Int):(pickL tz ks).length=ks.length:=by simp [pickL]
theorem pickL_snoc (tz ks:List Int) (i:Nat) (h:i<ks.length):pickL tz (ks.take (i+1))=pickL tz (ks.take i) ++ [tz.getD ks[i].toNat 0]:=by
 unfold pickL
 rw [List.take_succ_eq_append_getElem h,List.map_append];rfl
theorem one_at (w:World) (z:Int):IntsAt (w.alloc (.cells #[.int .i64 z] 3)) (.slice (some ⟨w.heap.size,0,none⟩) 1 1) [z]:=by
 refine ⟨_,_,rfl,Nat.le_refl _,fun i hi=>⟨_,_,rfl,hi,?_⟩⟩
 obtain rfl:i=0:=by simpa using hi
 exact (Bk.new w _ _).cell.1 0
theorem hgList_any (vt va:Value) (tz ks:List Int) (w:World) (ht:IntsAt w vt tz) (ha:IntsAt w va ks) (hin:∀ k ∈ ks,0≤k∧k<tz.length) (hl:ks.length≤100000) (hlt:tz.length≤100000) :
  Calls Tryz.prog 201 #[va,vt] w (RwP (pickL tz ks) w):=by
 obtain ⟨a,c,rfl,hc,hata⟩:=ha
 obtain ⟨p,d,rfl,hd,hatt⟩:=ht
 have HIN:=Lib.hid hin
 clear hin
 go_enter Tryz.func201,Tryz.ntmps201
 go_wp2
 go_loopw [5,10] (fun rv i wr=>∃ k:Nat,k≤ks.length∧i=.int .i64 k∧Rw wr w.heap.size rv (pickL tz (ks.take k))∧Below w.heap.size w wr) (fun _ i _=>ks.length - (intOf i).toNat)
 case atStart=>exact ⟨0,Nat.zero_le _,rfl,World.ownsRow_nil _ _ _ _,Below.refl _ _⟩
 case round =>
  obtain ⟨k,hk,rfl,hrow,hbel⟩:=hrel
  by_cases hlk:k<ks.length
  ·obtain ⟨b,o,rfl,_,c0⟩:=hata k hlk
   rw [Nat.mul_one] at c0
   have hr:=HIN.out _ (List.getElem_mem hlk)
   have hsn:=pickL_snoc tz ks k hlk
   obtain ⟨z,hz⟩:∃ z,ks[k]=z:=⟨_,rfl⟩
   rw [hz] at c0 hr hsn
   obtain ⟨m,rfl⟩:∃ m:Nat,z=m:=⟨z.toNat,by omega⟩
   have hm:m<tz.length:=by omega
   obtain ⟨b2,o2,rfl,_,e0⟩:=hatt m hm
   rw [Nat.mul_one] at e0
   have hgd:tz.getD (m:Int).toNat 0=tz[m]:=by rw [Int.toNat_natCast,List.getD_eq_getElem?_getD,List.getElem?_eq_getElem hm];rfl
   rw [hgd] at hsn
   obtain ⟨x,hx⟩:∃ x,tz[m]=x:=⟨_,rfl⟩
   rw [hx] at e0 hsn
   have HSN:=Lib.hid hsn
   replace c0:=cell_keep hbel c0
   replace e0:=cell_keep hbel e0
   have bz:=cell_lt c0
   have bz2:=cell_lt e0
   have hA:=alloc_below wr (.cells #[.int .i64 x] 3)
   have h1:=one_at wr x
   have hrow2:=hrow.keep hA
   have hzz:=hbel.size
   obtain ⟨ar,cr,rfl⟩:=hrow.slice
   have hpl:(pickL tz (ks.take k)).length≤100000:=by rw [pickL_len,List.length_take];omega
   clear hata hatt hsn hz hx hgd
   go_wp2_with (at_builtin;refine ints_append h1 rfl (.tmp 14) (.tmp 19) rfl w.heap.size _ (pickL tz (ks.take k)) rfl rfl hrow2 (by simp;omega) (by simp;omega) ?_;intro v2 w2 q1 q2 q3)
   have hb2:Below w.heap.size w w2:=(hbel.trans (hA.mono hzz)).grown q2 (by have:=hA.size;omega) (fun j hj=>(World.ownsRow.lt hrow2 j hj).1)
   go_roundw
   case rel=>exact ⟨k+1,by omega,by go_num,by rw [HSN.out];exact q1,hb2⟩
   case measure=>simp [intOf];omega
  ·obtain rfl:k=ks.length:=by omega
   rw [List.take_length] at hrow
   clear hata hatt
   go_wp2
   go_ret
   exact ⟨_,rfl,hrow,hbel⟩
theorem chosen_any (vt va:Value) (tz ks:List Int) (w:World) (ht:IntsAt w vt tz) (ha:IntsAt w va ks) (hin:∀ k ∈ ks,0≤k∧k<tz.length) (hl:ks.length≤100000) (hlt:tz.length≤100000) :
  Calls Tryz.prog 296 #[vt,va] w (RwP (pickL tz ks) w):=by
 obtain ⟨a,c,rfl,hc,hata⟩:=ha
 obtain ⟨p,d,rfl,hd,hatt⟩:=ht
 have HIN:=Lib.hid hin
 clear hin
 obtain ⟨i0,hi,hz0,hz1,hz2⟩:=info_parts infoInt
 go_enter Tryz.func296,Tryz.ntmps296
 go_wp2_with (at_make;refine wpList_make_own _ rfl _ _ _ rfl w.heap.size 3 i0 _ 1 Tryz.underlying40 hi hz0 hz1 _ _ _ ks.length rfl rfl rfl (by rw [hz2];omega) (by unfold maxLen;omega) (Nat.le_refl _) ?_;intro w1 hown hgr)
 have hb1:Below w.heap.size w w1:=(Below.refl _ _).grown hgr (Nat.le_refl _) (by simp)
 have hr1:Rw w1 w.heap.size (.slice (some ⟨w.heap.size,0,none⟩) 0 ks.length) (pickL tz (ks.take 0)):=hown
 clear hown hgr hi hz0 hz1 hz2
 go_loopw [5,13] (fun rv i wr=>∃ k:Nat,k≤ks.length∧i=.int .i64 k∧Rw wr w.heap.size rv (pickL tz (ks.take k))∧Below w.heap.size w wr) (fun _ i _=>ks.length - (intOf i).toNat)
 case atStart=>exact ⟨0,Nat.zero_le _,rfl,hr1,hb1⟩
 case round =>
  clear hr1 hb1
  obtain ⟨k,hk,rfl,hrow,hbel⟩:=hrel
  by_cases hlk:k<ks.length
  ·obtain ⟨b,o,rfl,_,c0⟩:=hata k hlk
   rw [Nat.mul_one] at c0
   have hr:=HIN.out _ (List.getElem_mem hlk)
   have hsn:=pickL_snoc tz ks k hlk
   obtain ⟨z,hz⟩:∃ z,ks[k]=z:=⟨_,rfl⟩
   rw [hz] at c0 hr hsn
   obtain ⟨m,rfl⟩:∃ m:Nat,z=m:=⟨z.toNat,by omega⟩
   have hm:m<tz.length:=by omega
   obtain ⟨b2,o2,rfl,_,e0⟩:=hatt m hm
   rw [Nat.mul_one] at e0
   have hgd:tz.getD (m:Int).toNat 0=tz[m]:=by rw [Int.toNat_natCast,List.getD_eq_getElem?_getD,List.getElem?_eq_getElem hm];rfl
   rw [hgd] at hsn
   obtain ⟨x,hx⟩:∃ x,tz[m]=x:=⟨_,rfl⟩
   rw [hx] at e0 hsn
   have HSN:=Lib.hid hsn
   replace c0:=cell_keep hbel c0
   replace e0:=cell_keep hbel e0
   have bz:=cell_lt c0
   have bz2:=cell_lt e0
   have hA:=alloc_below wr (.cells #[.int .i64 x] 3)
   have h1:=one_at wr x
   have hrow2:=hrow.keep hA
   have hzz:=hbel.size
   obtain ⟨ar,cr,rfl⟩:=hrow.slice
   have hpl:(pickL tz (ks.take k)).length≤100000:=by rw [pickL_len,List.length_take];omega
   clear hata hatt hsn hz hx hgd
   go_wp2_with (at_builtin;refine ints_append h1 rfl (.tmp 17) (.tmp 22) rfl w.heap.size _ (pickL tz (ks.take k)) rfl rfl hrow2 (by simp;omega) (by simp;omega) ?_;intro v2 w2 q1 q2 q3)
   have hb2:Below w.heap.size w w2:=(hbel.trans (hA.mono hzz)).grown q2 (by have:=hA.size;omega) (fun j hj=>(World.ownsRow.lt hrow2 j hj).1)
   go_roundw
   case rel=>exact ⟨k+1,by omega,by go_num,by rw [HSN.out];exact q1,hb2⟩
   case measure=>simp [intOf];omega
  ·obtain rfl:k=ks.length:=by omega
   rw [List.take_length] at hrow
   clear hata hatt
   go_wp2
   go_ret
   exact ⟨_,rfl,hrow,hbel⟩
theorem mapped_any (vt va:Value) (tz ks:List Int) (w:World) (ht:IntsAt w vt tz) (ha:IntsAt w va ks) (hin:∀ k ∈ ks,0≤k∧k<tz.length) (hl:ks.length≤100000) (hlt:tz.length≤100000) :
  Calls Tryz.prog 248 #[va,vt] w (RwP (pickL tz ks) w):=by
 obtain ⟨a,c,rfl⟩:=ha.slice
 obtain ⟨p,d,rfl⟩:=ht.slice
 have hC:=chosen_any _ _ tz ks w ht ha hin hl hlt
 go_enter Tryz.func248,Tryz.ntmps248
 go_wp2_with fail
 refine hC.mono ?_
 rintro q w1 ⟨v,rfl,hr,hb⟩
 obtain ⟨b,e,rfl⟩:=hr.slice
 go_wp2
 go_ret
 exact ⟨_,rfl,hr,hb⟩
end Go.Proofs.YtbljmfcifljkaaaGreatDoor
/-
  Own rows of edges grow: append of one edge in a region that draws. Own work.
-/
namespace Go.Proofs.YtbljmfcifljkaaaGreatDoor
open Go.RowKit
abbrev EdV:=EdI × Value × Value
def EdAll (w:World) (B:Nat) (ys:List EdV):Prop:=∀ y ∈ ys,Rw w B y.2.1 y.1.ins∧Rw w B y.2.2 y.1.outs
theorem EdAll.keep {w w':World} {B:Nat} {ys:List EdV} (hb:Below w.heap.size w w') (h:EdAll w B ys):EdAll w' B ys:=fun y hy=>⟨(h y hy).1.keep hb,(h y hy).2.keep hb⟩
theorem EdAll.mono {w:World} {B B':Nat} {ys:List EdV} (hB:B'≤B) (h:EdAll w B ys):EdAll w B' ys:=fun y hy=>⟨(h y hy).1.mono hB,(h y hy).2.mono hB⟩
structure EdS (w:World) (B:Nat) (v:Value) (xs:List EdV):Prop where
 row:w.ownsRow B 189 4 v xs.length (xs.flatMap edCells)
 rws:EdAll w B xs
theorem EdS.keep {w w':World} {B:Nat} {v:Value} {xs:List EdV} (hb:Below w.heap.size w w') (h:EdS w B v xs):EdS w' B v xs:=⟨owns_keep hb h.row,h.rws.keep hb⟩
theorem EdS.o {w:World} {B:Nat} {v:Value} {xs:List EdV} (h:EdS w B v xs):EdsO w B v (xs.map Prod.fst):=⟨xs,rfl,h.row,h.rws⟩
theorem EdS.shape {w:World} {B:Nat} {v:Value} {xs:List EdV} (h:EdS w B v xs):∃ a cap,v=.slice a xs.length cap:=by
 rcases h.row.2 with ⟨hv,he⟩|⟨g,cap,cur,hv,_⟩
 ·exact ⟨none,0,by rw [hv,he]⟩
 ·exact ⟨_,_,hv⟩
theorem EdS.nil (w:World) (B:Nat):EdS w B (.slice none 0 0) []:=⟨World.ownsRow_nil _ _ _ _,fun y hy=>by cases hy⟩
theorem edAll_one {w:World} {B:Nat} {ys:List EdV} (h:EdAll w B ys):∀ u ∈ ys.flatMap edCells,u.oneCell'=true:=by
 intro u hu
 obtain ⟨x,hx,hd⟩:=List.mem_flatMap.1 hu
 obtain ⟨h1,h2⟩:=h x hx
 obtain ⟨a,c,e1⟩:=h1.slice
 obtain ⟨b,d,e2⟩:=h2.slice
 simp only [edCells,List.mem_cons,List.not_mem_nil,or_false] at hd
 rcases hd with rfl|rfl|rfl|rfl
 ·rfl
 ·rfl
 ·rw [e1];rfl
 ·rw [e2];rfl
theorem EdS.app {w w':World} {B:Nat} {v v':Value} {xs ys:List EdV} (h:EdS w B v xs) (hy:EdAll w B ys)
  (hown:w'.ownsRow B 189 4 v' (xs.length+ys.length) (xs.flatMap edCells ++ ys.flatMap edCells)) (hg:w.grownBy w' v.ownBlock):EdS w' B v' (xs ++ ys):=by
 have mv:∀ (u:Value) zs,Rw w B u zs → Rw w' B u zs:=fun u zs hu=>hu.grown hg fun k hk e=>owns_ne hu h.row (by decide) k hk e
 refine ⟨?_,fun x hx=>?_⟩
 ·rw [List.length_append,List.flatMap_append];exact hown
 ·rcases List.mem_append.1 hx with hx|hx
  ·exact ⟨mv _ _ (h.rws x hx).1,mv _ _ (h.rws x hx).2⟩
  ·exact ⟨mv _ _ (hy x hx).1,mv _ _ (hy x hx).2⟩
theorem EdS.setB {w:World} {B b:Nat} {v:Value} {xs:List EdV} {t:TypeId} {cs:Array Value} (h:EdS w B v xs) (kb:Bk w b t cs) (h1:189 ≠ t) (h2:3 ≠ t) (j:Nat) (u:Value):EdS (w.setCell ⟨b,j,none⟩ u) B v xs :=
 ⟨owns_other h.row _ _ (row_blk_ne h.row kb h1),fun y hy=>⟨owns_other (h.rws y hy).1 _ _ (row_blk_ne (h.rws y hy).1 kb h2),owns_other (h.rws y hy).2 _ _ (row_blk_ne (h.rws y hy).2 kb h2)⟩⟩
theorem x_edapp {ops:Array Oper} {Q:Exit → Act → World → Prop} {T:Nat → Prop} {w0:World} {i:Nat} {l:List Nat} {bs:Nat → Prop} {a:Act} {w:World} {o:Oper} (ho:ops[i]?=some o) (hk:opKind o=.act) (hg:o.guard=none) (hC:Exc T w0 w) (s x:Operand)
  (hop:o.op=Op.call { callee:=Callee.builtin Builtin.append,args:=#[s,x],argTypes:=#[51,51] })
  (B:Nat) (v:Value) (xs ys:List EdV) (b m c:Nat) (hm:ys.length=m) (hs:a.eval s=v) (hx:a.eval x=.slice (some ⟨b,0,none⟩) m c)
  (hvT:∀ k,v.ownBlock=some k → (k<w0.heap.size∧T k)∨(w0.heap.size≤k∧bs k)) (hbase:B≤w.heap.size) (hl:xs.length+m≤100000)
  (hrow:EdS w B v xs) (hys:EdAll w B ys) (hbo:w.heap[b]?=some (.cells (ys.flatMap edCells).toArray 189))
  (h:∀ K:(Nat → Prop) → Act → World → Prop,(∀ bs a w,WX Tryz.prog ops (Exc T w0) w0.heap.size Q l bs a w → K bs a w) → ∀ w1 w2 v',Exc T w0 w1 → Below w.heap.size w w1 →
   EdS w2 B v' (xs ++ ys) → w1.grownBy w2 v.ownBlock → Exc T w0 w2 → (v'.ownBlock=v.ownBlock∨v'.ownBlock=some w1.heap.size) → K (more bs w1 w2) (a.put o.dst v') w2) :
  WX Tryz.prog ops (Exc T w0) w0.heap.size Q (i :: l) bs a w:=by
 subst hm
 obtain ⟨i0,hi,hz0,hz1,hz2⟩:=info_parts infoEdge
 refine x_src ho hk hg hC s x 51 hop B 189 i0 _ 4 64 Tryz.underlying51 hi hz0 hz1 hz2 rfl (by decide) v xs.length (xs.flatMap edCells) hs hvT (.slice (some ⟨b,0,none⟩) ys.length c) ys.length (ys.flatMap edCells) hx ?_ (by unfold maxLen;omega) (by omega) hbase ?_ ?_
 ·exact edAll_one hys
 ·intro w1 hw1 hb1
  refine ⟨(hrow.keep hb1).1,flat_length edCells_len ys,.inr ⟨_,c,rfl,?_⟩⟩
  obtain ⟨m0,_,_⟩:=made_cell ((hb1.block b (made_cell hbo).2.2).trans hbo)
  intro j u hj
  rw [addr_add,Nat.zero_add,m0 j]
  simpa using hj
 ·intro K hK w1 w2 v' hw1 hb1 h1 h2 h3 h4
  exact h K hK w1 w2 v' hw1 hb1 ((hrow.keep hb1).app (hys.keep hb1) h1 h2) h2 h3 h4
def mvE (tz:List Int) (e:EdI):EdI:=⟨e.kind,e.value,pickL tz e.ins,pickL tz e.outs⟩
def mvI (g:GrI) (cnt:Int) (tz:List Int):GrI:=⟨cnt,g.edges.map (mvE tz),pickL tz g.ins,pickL tz g.outs⟩
structure GrB (g:GrI):Prop where
 ed:g.edges.length≤10000
 eds:∀ e ∈ g.edges,e.ins.length≤1000∧e.outs.length≤1000
 inn:g.ins.length≤1000
 out:g.outs.length≤1000
def inTab (tz:List Int) (l:List Int):Prop:=∀ k ∈ l,0≤k∧k<tz.length
def RwQ (xs:List Int) (w:World) (e:Ending) (w':World):Prop:=∃ a c,e=.returned (.slice a xs.length c)∧Rw w' w.heap.size (.slice a xs.length c) xs∧Below w.heap.size w w'
theorem RwP.q {xs:List Int} {w w':World} {e:Ending} (h:RwP xs w e w'):RwQ xs w e w':=by
 obtain ⟨v,rfl,h1,h2⟩:=h
 obtain ⟨a,c,rfl⟩:=h1.slice
 exact ⟨a,c,rfl,h1,h2⟩
def GrS (w:World) (B:Nat) (ve vi vo:Value) (g:GrI):Prop:=∃ C D,B≤C∧C≤D∧EdsO w D ve g.edges∧Rw w B vi g.ins∧Rw w C vo g.outs∧(∀ j,vi.ownBlock=some j → j<C)∧(∀ j,vo.ownBlock=some j → j<D)∧D≤w.heap.size
theorem GrS.o {w:World} {B:Nat} {ve vi vo:Value} {g:GrI} (h:GrS w B ve vi vo g):GrO w B ve vi vo g:=by
 obtain ⟨C,D,h1,h2,h3,h4,h5,-⟩:=h
 exact ⟨h3.mono (Nat.le_trans h1 h2),h4,h5.mono h1⟩
theorem GrS.keep {w w':World} {B:Nat} {ve vi vo:Value} {g:GrI} (hb:Below w.heap.size w w') (h:GrS w B ve vi vo g):GrS w' B ve vi vo g:=by
 obtain ⟨C,D,h1,h2,h3,h4,h5,h6,h7,h8⟩:=h
 exact ⟨C,D,h1,h2,h3.keep hb,h4.keep hb,h5.keep hb,h6,h7,Nat.le_trans h8 hb.size⟩
theorem GrS.mono {w:World} {B B':Nat} {ve vi vo:Value} {g:GrI} (hB:B'≤B) (h:GrS w B ve vi vo g):GrS w B' ve vi vo g:=by
 obtain ⟨C,D,h1,h2,h3,h4,h5,h6⟩:=h
 exact ⟨C,D,Nat.le_trans hB h1,h2,h3,h4.mono hB,h5,h6⟩
theorem GrS.low {w:World} {B:Nat} {ve vi vo:Value} {g:GrI} (h:GrS w B ve vi vo g) {a:Addr} (ha:a.block<B) (u:Value):GrS (w.setCell a u) B ve vi vo g:=by
 obtain ⟨C,D,h1,h2,h3,h4,h5,h6⟩:=h
 exact ⟨C,D,h1,h2,h3.low (by omega) u,h4.other a u ha,h5.other a u (by omega),h6.1,h6.2.1,by rw [World.size_setCell];exact h6.2.2⟩
def GrMs (g:GrI) (w:World) (e:Ending) (w':World):Prop:=∃ ve vi vo,e=.returned (.agg #[.int .i64 g.wires,ve,vi,vo])∧GrS w' w.heap.size ve vi vo g∧Below w.heap.size w w'
def GrMk (g:GrI) (w:World) (e:Ending) (w':World):Prop:=∃ ve vi vo,e=.returned (.agg #[.int .i64 g.wires,ve,vi,vo])∧GrO w' w.heap.size ve vi vo g∧Below w.heap.size w w'
end Go.Proofs.YtbljmfcifljkaaaGreatDoor
