/-
  PrintTerm and PrintFull, of the program and of the reference. Own work.
-/
import Derived.Test.YtikgblkfmpecfaaGreatDoorKNF
import Derived.Test.YtikgblkfmpecfaaGreatDoorKW
import Derived.Test.YtikgblkfmpecfaaGreatDoorKV
import Derived.Test.YtikgblkfmpecfaaGreatDoorKG
import Derived.Test.YtikgblkfmpecfaaGreatDoorKL
import Derived.Test.YtikgblkfmpecfaaGreatDoorKX
import Derived.Test.YtikgblkfmpecfaaGreatDoorKLW
import Derived.Test.YtikgblkfmpecfaaGreatDoorKPtI
import Derived.Test.YtikgblkfmpecfaaGreatDoorKRt3
set_option linter.all false
set_option maxRecDepth 100000
set_option maxHeartbeats 8000000
namespace Go.Proofs.YtikgblkfmpecfaaGreatDoor
open Go.RowKit
def prR (full:Bool) (L:List Df) (ns:List Nd):ByteArray × Bool:=if (good L && (typedL (leafIn L) ns).isSome)=true then (prT full (treeL ns),true) else (⟨#[]⟩,false)
def PrP (R:ByteArray × Bool) (w:World) (e:Ending) (w':World):Prop:=e=.returned (.tuple #[.string R.1,.bool R.2])∧Below w.heap.size w w'
theorem isTermIn_any (v vb:Value) (L:List Df) (ns:List Nd) (w:World) (hv:DfsAt w v L) (hn:L.length≤1048576) (hs:∀ d ∈ L,DfOk d) (hvb:NdsAt w vb ns) (hok:NdsOk ns) :
  Calls Tryz.prog 41 #[v,.agg #[vb]] w fun e w'=>e=.returned (.bool (good L && (typedL (leafIn L) ns).isSome))∧Below w.heap.size w w':=by
 obtain ⟨a,cap,rfl⟩:∃ a cap,v=.slice a L.length cap:=by obtain ⟨a,cap,rfl,_⟩:=hv;exact ⟨a,cap,rfl⟩
 obtain ⟨ab,cb,rfl⟩:=hvb.slice
 have hal:=alloc_below w (.cells #[.slice ab ns.length cb] 27)
 cases hg:good L
 ·have HG:=Lib.hid hg
  clear hg
  go_enter Tryz.func41,Tryz.ntmps41
  go_wp2_with (go_at_call 46;refine (isLibrary_any _ L _ (hv.keep hal) hn hs).mono ?_;rintro e w2 ⟨rfl,hb2⟩;rw [HG.out])
  go_ret
  exact ⟨rfl,hal.trans (hb2.mono (by simp))⟩
 ·have hg2:=hg
  unfold good at hg2
  simp only [Bool.and_eq_true,decide_eq_true_eq] at hg2
  have hsm:=good_sm hg2.2
  have huq:=good_uniq hg2.2
  have hnm:∀ d ∈ L,d.name.size≤1048576:=fun d hd=>(hs d hd).1
  have HG:=Lib.hid hg
  clear hg hg2
  go_enter Tryz.func41,Tryz.ntmps41
  go_wp2_with (go_at_call 46;refine (isLibrary_any _ L _ (hv.keep hal) hn hs).mono ?_;rintro e w2 ⟨rfl,hb2⟩;rw [HG.out];obtain ⟨hc2,hf2,hs2⟩:=bcell hb2)
  have hbq:Below w.heap.size w w2:=hal.trans (hb2.mono (by simp))
  have t0:w2.cell? ⟨w.heap.size,0,none⟩=some (.slice ab ns.length cb):=(hc2 _ _ (by simp)).trans (by simp [go_sem])
  have z0:=cell_lt t0
  have hvw:=hv.keep hbq
  have hvbw:=hvb.keep hbq
  clear hc2 hf2 hs2 hb2
  have up:∀ {w':World},Exc NoT w2.drew w' → Below w2.heap.size w2 w':=fun h=>(Below.refl w2.heap.size w2).drew.trans (h.toBelow.mono (by simp))
  refine region_acts (C:=Exc (NoT) _) 6 [0,1,2,3,4,5,6,7,8,9,10] (by kernel_rfl) (by kernel_rfl) (Exc.grows _ _) (Exc.refl _ _) ?_
  iterate 3 (apply x_st rfl rfl rfl;(focus intro u hc' hf';go_simp <;> rfl);intro K hK;go_simp;apply hK;clear hK K)
  refine x_call rfl rfl rfl (Exc.grows _ _) (Exc.refl _ _) 82 (fun K hK=>?_);apply Exists.intro;refine ⟨fun w' hw'=>?_,fun w' hw' hbw=>?_⟩;(focus go_simp;rfl);refine (typingIn_any _ L _ (hvw.keep (up hw')) hn hnm).mono ?_;rintro e w3 ⟨bc,rfl,ht3,hbc,hb3⟩;refine ⟨_,rfl,hb3,fun hx=>?_⟩;go_simp;apply hK;clear hK K
  refine x_call rfl rfl rfl (Exc.grows _ _) (hx) 81 (fun K hK=>?_);apply Exists.intro;refine ⟨fun w' hw'=>?_,fun w' hw' hbw=>?_⟩;(focus go_simp;rfl);refine (typed_any _ ns L bc _ (hvbw.keep (up hw')) (ht3.keep hbw) hok.2 hok.1 hsm).mono ?_;rintro e w4 ⟨x,rfl,hx4,hb4⟩;refine ⟨_,rfl,hb4,fun hx=>?_⟩;go_simp;apply hK;clear hK K
  rw [typedL_uniq huq] at *
  iterate 3 (apply x_st rfl rfl rfl;(focus intro u hc' hf';go_simp <;> rfl);intro K hK;go_simp;apply hK;clear hK K)
  refine x_make rfl rfl rfl (Exc.grows _ _) hx (fun b=>.pointer (some ⟨b,0,none⟩)) (fun K hK=>?_)
  apply Exists.intro
  refine ⟨fun w' hw'=>?_,fun bb w5 hw5 hb5 hbo hNb hnb=>?_⟩
  ·go_simp
   rfl
  go_simp
  refine hK _ _ _ ?_
  clear hK K
  refine x_do rfl rfl rfl (Exc.grows _ _) hw5 (fun K hK=>?_)
  intro w6 hw6 hb6
  obtain ⟨m0,m1,m2⟩:=made_cell ((hb6.block bb (made_cell hbo).2.2).trans hbo)
  refine ⟨(w6.setCell ⟨bb,0,none⟩ (.int .i64 x.1)).setCell ⟨bb,1,none⟩ (.int .i64 x.2),?_,⟨exc_set (exc_set hw6 (.inl hNb) _) (.inl hNb) _,by simp,fun j _ hj _=>by rw [Below.heap_setCell _ _ _ _ (fun h=>hj (by simp [h])),Below.heap_setCell _ _ _ _ (fun h=>hj (by simp [h]))]⟩,?_⟩
  ·go_simp
  go_simp
  refine hK _ _ _ ?_
  clear hK K
  iterate 1 (apply x_st rfl rfl rfl;(focus intro u hc' hf';go_simp <;> rfl);intro K hK;go_simp;apply hK;clear hK K)
  refine x_nil ?_
  have hbW:Below w2.heap.size w2 ((w6.setCell ⟨bb,0,none⟩ (.int .i64 x.1)).setCell ⟨bb,1,none⟩ (.int .i64 x.2)):=((up hw6).setCell (by simpa using hNb) _).setCell (by simpa using hNb) _
  go_wp2
  go_ret
  exact ⟨rfl,hbq.trans (hbW.mono hbq.size)⟩
theorem lbTerm_any (v vb:Value) (L:List Df) (ns:List Nd) (w:World) (hv:DfsAt w v L) (hn:L.length≤1048576) (hs:∀ d ∈ L,DfOk d) (hvb:NdsAt w vb ns) (hok:NdsOk ns) :
  Calls Tryz.prog 44 #[v,.agg #[vb]] w fun e w'=>e=.returned (.bool (good L && (typedL (leafIn L) ns).isSome))∧Below w.heap.size w w':=by
 obtain ⟨a,cap,rfl⟩:∃ a cap,v=.slice a L.length cap:=by obtain ⟨a,cap,rfl,_⟩:=hv;exact ⟨a,cap,rfl⟩
 obtain ⟨ab,cb,rfl⟩:=hvb.slice
 have hal:=alloc_below w (.cells #[.slice ab ns.length cb] 27)
 cases hg:good L
 ·have HG:=Lib.hid hg
  clear hg
  go_enter Tryz.func44,Tryz.ntmps44
  go_wp2_with (go_at_call 51;refine (lbGood_any _ L _ (hv.keep hal) hn hs).mono ?_;rintro e w2 ⟨rfl,hb2⟩;rw [HG.out])
  go_ret
  exact ⟨rfl,hal.trans (hb2.mono (by simp))⟩
 ·have hg2:=hg
  unfold good at hg2
  simp only [Bool.and_eq_true,decide_eq_true_eq] at hg2
  have hsm:=good_sm hg2.2
  have HG:=Lib.hid hg
  clear hg hg2
  go_enter Tryz.func44,Tryz.ntmps44
  go_wp2_with (first
   | (go_at_call 87;refine (lbScan_any _ L _ ns _ (hv.keep hbw) hn hsm (hvb.keep hbw) hok).mono ?_;rintro r w3 ⟨a0,n0,c0,a1,n1,c1,a2,n2,c2,rfl,hb3,_⟩)
   | (go_at_call 51;refine (lbGood_any _ L _ (hv.keep hal) hn hs).mono ?_;rintro e w2 ⟨rfl,hb2⟩;rw [HG.out];have hbw:Below w.heap.size w w2:=hal.trans (hb2.mono (by simp));have t0:w2.cell? ⟨w.heap.size,0,none⟩=some (.slice ab ns.length cb):=(hb2.cell (p:=⟨w.heap.size,0,none⟩) (by simp)).trans (by simp [go_sem]);have z0:=cell_lt t0))
  go_ret
  exact ⟨rfl,(hbw.trans (hb3.mono hbw.size)).alloc (hbw.trans (hb3.mono hbw.size)).size _⟩
theorem implPrint_any (v vb:Value) (L:List Df) (ns:List Nd) (w:World) (hv:DfsAt w v L) (hn:L.length≤1048576) (hs:∀ d ∈ L,DfOk d) (hvb:NdsAt w vb ns) (hok:NdsOk ns) :
  Calls Tryz.prog 8 #[v,.agg #[vb]] w (PrP (prR false L ns) w):=by
 obtain ⟨a,cap,rfl⟩:∃ a cap,v=.slice a L.length cap:=by obtain ⟨a,cap,rfl,_⟩:=hv;exact ⟨a,cap,rfl⟩
 obtain ⟨ab,cb,rfl⟩:=hvb.slice
 have hal:=alloc_below w (.cells #[.slice ab ns.length cb] 27)
 have hin:=isTermIn_any _ _ L ns _ (hv.keep hal) hn hs (hvb.keep hal) hok
 cases hb:(good L && (typedL (leafIn L) ns).isSome)
 ·have HR:Hid (prR false L ns=(⟨#[]⟩,false)):=(show _=_ by unfold prR;rw [hb];rfl)
  rw [hb] at hin
  clear hb
  go_enter Tryz.func8,Tryz.ntmps8
  go_wp2_with (go_at_call 41;refine hin.mono ?_;rintro e w2 ⟨rfl,hb2⟩)
  go_ret2
  exact ⟨by rw [HR.out];rfl,hal.trans (hb2.mono (by simp))⟩
 ·have HR:Hid (prR false L ns=(prT false (treeL ns),true)):=(show _=_ by unfold prR;rw [hb];rfl)
  rw [hb] at hin
  simp only [Bool.and_eq_true] at hb
  obtain ⟨hg,ht⟩:=hb
  obtain ⟨x,hx⟩:=Option.isSome_iff_exists.1 ht
  obtain ⟨t,htr,hto,htc⟩:=tree_of_typed (fun d hd=>nameB_size (good_names hg d hd)) hx
  rw [treeL_eq htr] at HR
  clear hg ht hx
  go_enter Tryz.func8,Tryz.ntmps8
  go_wp2_with (first
   | (go_at_call 42;refine (printed_any false t _ hto (by omega)).mono ?_;rintro e w4 ⟨rfl,hb4⟩)
   | (go_at_call 43;refine (treeOf_any _ ns t _ (hvb.keep hbw) hok.2 htr).mono ?_;rintro e w3 ⟨rfl,hb3⟩)
   | (go_at_call 41;refine hin.mono ?_;rintro e w2 ⟨rfl,hb2⟩;have hbw:Below w.heap.size w w2:=hal.trans (hb2.mono (by simp));have t0:w2.cell? ⟨w.heap.size,0,none⟩=some (.slice ab ns.length cb):=(hb2.cell (p:=⟨w.heap.size,0,none⟩) (by simp)).trans (by simp [go_sem]);have z0:=cell_lt t0))
  go_ret2
  exact ⟨by rw [HR.out];rfl,hbw.trans ((hb3.trans (hb4.mono hb3.size)).mono hbw.size)⟩
theorem implFull_any (v vb:Value) (L:List Df) (ns:List Nd) (w:World) (hv:DfsAt w v L) (hn:L.length≤1048576) (hs:∀ d ∈ L,DfOk d) (hvb:NdsAt w vb ns) (hok:NdsOk ns) :
  Calls Tryz.prog 10 #[v,.agg #[vb]] w (PrP (prR true L ns) w):=by
 obtain ⟨a,cap,rfl⟩:∃ a cap,v=.slice a L.length cap:=by obtain ⟨a,cap,rfl,_⟩:=hv;exact ⟨a,cap,rfl⟩
 obtain ⟨ab,cb,rfl⟩:=hvb.slice
 have hal:=alloc_below w (.cells #[.slice ab ns.length cb] 27)
 have hin:=isTermIn_any _ _ L ns _ (hv.keep hal) hn hs (hvb.keep hal) hok
 cases hb:(good L && (typedL (leafIn L) ns).isSome)
 ·have HR:Hid (prR true L ns=(⟨#[]⟩,false)):=(show _=_ by unfold prR;rw [hb];rfl)
  rw [hb] at hin
  clear hb
  go_enter Tryz.func10,Tryz.ntmps10
  go_wp2_with (go_at_call 41;refine hin.mono ?_;rintro e w2 ⟨rfl,hb2⟩)
  go_ret2
  exact ⟨by rw [HR.out];rfl,hal.trans (hb2.mono (by simp))⟩
 ·have HR:Hid (prR true L ns=(prT true (treeL ns),true)):=(show _=_ by unfold prR;rw [hb];rfl)
  rw [hb] at hin
  simp only [Bool.and_eq_true] at hb
  obtain ⟨hg,ht⟩:=hb
  obtain ⟨x,hx⟩:=Option.isSome_iff_exists.1 ht
  obtain ⟨t,htr,hto,htc⟩:=tree_of_typed (fun d hd=>nameB_size (good_names hg d hd)) hx
  rw [treeL_eq htr] at HR
  clear hg ht hx
  go_enter Tryz.func10,Tryz.ntmps10
  go_wp2_with (first
   | (go_at_call 42;refine (printed_any true t _ hto (by omega)).mono ?_;rintro e w4 ⟨rfl,hb4⟩)
   | (go_at_call 43;refine (treeOf_any _ ns t _ (hvb.keep hbw) hok.2 htr).mono ?_;rintro e w3 ⟨rfl,hb3⟩)
   | (go_at_call 41;refine hin.mono ?_;rintro e w2 ⟨rfl,hb2⟩;have hbw:Below w.heap.size w w2:=hal.trans (hb2.mono (by simp));have t0:w2.cell? ⟨w.heap.size,0,none⟩=some (.slice ab ns.length cb):=(hb2.cell (p:=⟨w.heap.size,0,none⟩) (by simp)).trans (by simp [go_sem]);have z0:=cell_lt t0))
  go_ret2
  exact ⟨by rw [HR.out];rfl,hbw.trans ((hb3.trans (hb4.mono hb3.size)).mono hbw.size)⟩
theorem specPrint_any (v vb:Value) (L:List Df) (ns:List Nd) (w:World) (hv:DfsAt w v L) (hn:L.length≤1048576) (hs:∀ d ∈ L,DfOk d) (hvb:NdsAt w vb ns) (hok:NdsOk ns) :
  Calls Tryz.prog 9 #[v,.agg #[vb]] w (PrP (prR false L ns) w):=by
 obtain ⟨a,cap,rfl⟩:∃ a cap,v=.slice a L.length cap:=by obtain ⟨a,cap,rfl,_⟩:=hv;exact ⟨a,cap,rfl⟩
 obtain ⟨ab,cb,rfl⟩:=hvb.slice
 have hal:=alloc_below w (.cells #[.slice ab ns.length cb] 27)
 have hin:=lbTerm_any _ _ L ns _ (hv.keep hal) hn hs (hvb.keep hal) hok
 cases hb:(good L && (typedL (leafIn L) ns).isSome)
 ·have HR:Hid (prR false L ns=(⟨#[]⟩,false)):=(show _=_ by unfold prR;rw [hb];rfl)
  rw [hb] at hin
  clear hb
  go_enter Tryz.func9,Tryz.ntmps9
  go_wp2_with (go_at_call 44;refine hin.mono ?_;rintro e w2 ⟨rfl,hb2⟩)
  go_ret2
  exact ⟨by rw [HR.out];rfl,hal.trans (hb2.mono (by simp))⟩
 ·have HR:Hid (prR false L ns=(prT false (treeL ns),true)):=(show _=_ by unfold prR;rw [hb];rfl)
  rw [hb] at hin
  simp only [Bool.and_eq_true] at hb
  obtain ⟨hg,ht⟩:=hb
  obtain ⟨x,hx⟩:=Option.isSome_iff_exists.1 ht
  obtain ⟨t,htr,hto,htc⟩:=tree_of_typed (fun d hd=>nameB_size (good_names hg d hd)) hx
  rw [treeL_eq htr] at HR
  clear hg ht hx
  go_enter Tryz.func9,Tryz.ntmps9
  go_wp2_with (first
   | (go_at_call 45;refine (sxPrint_full false _ ns t _ (hvb.keep hbw) hok.2 htr hto htc numOk).mono ?_;rintro e w3 ⟨rfl,hb3⟩)
   | (go_at_call 44;refine hin.mono ?_;rintro e w2 ⟨rfl,hb2⟩;have hbw:Below w.heap.size w w2:=hal.trans (hb2.mono (by simp));have t0:w2.cell? ⟨w.heap.size,0,none⟩=some (.slice ab ns.length cb):=(hb2.cell (p:=⟨w.heap.size,0,none⟩) (by simp)).trans (by simp [go_sem]);have z0:=cell_lt t0))
  go_ret2
  exact ⟨by rw [HR.out];rfl,hbw.trans (hb3.mono hbw.size)⟩
theorem specFull_any (v vb:Value) (L:List Df) (ns:List Nd) (w:World) (hv:DfsAt w v L) (hn:L.length≤1048576) (hs:∀ d ∈ L,DfOk d) (hvb:NdsAt w vb ns) (hok:NdsOk ns) :
  Calls Tryz.prog 11 #[v,.agg #[vb]] w (PrP (prR true L ns) w):=by
 obtain ⟨a,cap,rfl⟩:∃ a cap,v=.slice a L.length cap:=by obtain ⟨a,cap,rfl,_⟩:=hv;exact ⟨a,cap,rfl⟩
 obtain ⟨ab,cb,rfl⟩:=hvb.slice
 have hal:=alloc_below w (.cells #[.slice ab ns.length cb] 27)
 have hin:=lbTerm_any _ _ L ns _ (hv.keep hal) hn hs (hvb.keep hal) hok
 cases hb:(good L && (typedL (leafIn L) ns).isSome)
 ·have HR:Hid (prR true L ns=(⟨#[]⟩,false)):=(show _=_ by unfold prR;rw [hb];rfl)
  rw [hb] at hin
  clear hb
  go_enter Tryz.func11,Tryz.ntmps11
  go_wp2_with (go_at_call 44;refine hin.mono ?_;rintro e w2 ⟨rfl,hb2⟩)
  go_ret2
  exact ⟨by rw [HR.out];rfl,hal.trans (hb2.mono (by simp))⟩
 ·have HR:Hid (prR true L ns=(prT true (treeL ns),true)):=(show _=_ by unfold prR;rw [hb];rfl)
  rw [hb] at hin
  simp only [Bool.and_eq_true] at hb
  obtain ⟨hg,ht⟩:=hb
  obtain ⟨x,hx⟩:=Option.isSome_iff_exists.1 ht
  obtain ⟨t,htr,hto,htc⟩:=tree_of_typed (fun d hd=>nameB_size (good_names hg d hd)) hx
  rw [treeL_eq htr] at HR
  clear hg ht hx
  go_enter Tryz.func11,Tryz.ntmps11
  go_wp2_with (first
   | (go_at_call 45;refine (sxPrint_full true _ ns t _ (hvb.keep hbw) hok.2 htr hto htc numOk).mono ?_;rintro e w3 ⟨rfl,hb3⟩)
   | (go_at_call 44;refine hin.mono ?_;rintro e w2 ⟨rfl,hb2⟩;have hbw:Below w.heap.size w w2:=hal.trans (hb2.mono (by simp));have t0:w2.cell? ⟨w.heap.size,0,none⟩=some (.slice ab ns.length cb):=(hb2.cell (p:=⟨w.heap.size,0,none⟩) (by simp)).trans (by simp [go_sem]);have z0:=cell_lt t0))
  go_ret2
  exact ⟨by rw [HR.out];rfl,hbw.trans (hb3.mono hbw.size)⟩
end Go.Proofs.YtikgblkfmpecfaaGreatDoor
/-
  The places that a reading tells lie within the text; no program in sight. Own work.
-/
namespace Go.Proofs.YtikgblkfmpecfaaGreatDoor
open Go.RowKit
def Plc (n:Nat) (p:Int):Prop:=0≤p∧p≤n
def TkP (n:Nat) (ts:List Tk):Prop:=∀ t ∈ ts,Plc n t.pos
def RdP (n:Nat) (o:Rd):Prop:=∀ x ∈ o,Plc n x.2
theorem TkP.tail {n:Nat} {ts:List Tk} (h:TkP n ts):TkP n ts.tail:=fun t ht=>h t (List.mem_of_mem_tail ht)
theorem TkP.posAt {n:Nat} {ts:List Tk} (h:TkP n ts):Plc n (posAt ts n):=by
 cases ts with
 | nil=>exact ⟨by simp [Go.Proofs.YtikgblkfmpecfaaGreatDoor.posAt],by simp [Go.Proofs.YtikgblkfmpecfaaGreatDoor.posAt]⟩
 | cons t r=>exact h t (List.mem_cons_self ..)
theorem TkP.head {n:Nat} {ts:List Tk} (h:TkP n ts):Plc n ((ts.head?.map (·.pos)).getD 0):=by
 cases ts with
 | nil=>exact ⟨by simp,by simp⟩
 | cons t r=>exact h t (List.mem_cons_self ..)
theorem RdP.snoc {n:Nat} {o:Rd} {x:Nd × Int} (h:RdP n o) (hx:Plc n x.2):RdP n (o ++ [x]):=by
 intro y hy
 rcases List.mem_append.1 hy with hy|hy
 ·exact h y hy
 ·simp at hy;subst hy;exact hx
def TokP (n:Nat):Except (Int × Int) (List Tk) → Prop
 | .ok ts=>TkP n ts
 | .error e=>Plc n e.1
theorem tokP_cons {n:Nat} {r:Except (Int × Int) (List Tk)} {t:Tk} (ht:Plc n t.pos):TokP n r → TokP n (match r with|.ok r=>.ok (t :: r)|.error e=>.error e):=by
 intro h
 cases r with
 | error e=>exact h
 | ok ts =>
  intro x hx
  rcases List.mem_cons.1 hx with rfl|hx
  ·exact ht
  ·exact h x hx
theorem tokFrom_plc (s:ByteArray):∀ (d k:Nat),s.size - k=d → TokP s.size (tokFrom s k):=by
 intro d
 induction d using Nat.strongRecOn with
 | _ d ih =>
 intro k hd
 rw [tokFrom]
 by_cases hk:k<s.size
 ·have hp:Plc s.size (k:Int):=⟨by omega,by omega⟩
  rw [dif_pos hk]
  split
  ·exact ih (s.size - (k+1)) (by omega) (k+1) rfl
  ·split
   ·have he:=endOf_le (p:=lodB) (s:=s) (i:=k+1) hk
    exact tokP_cons (t:=⟨1,cutB s k (endOf lodB s (k+1)),k⟩) hp (ih _ (by omega) (endOf lodB s (k+1)) rfl)
   ·split
    ·split
     ·exact hp
     ·have he:=endOf_le (p:=digB) (s:=s) (i:=k+1) hk
      exact tokP_cons (t:=⟨2,cutB s k (endOf digB s (k+1)),k⟩) hp (ih _ (by omega) (endOf digB s (k+1)) rfl)
    ·split
     ·exact tokP_cons (t:=⟨3,cutB s k (k+1),k⟩) hp (ih _ (by omega) (k+1) rfl)
     ·exact hp
 ·rw [dif_neg hk]
  intro t ht
  cases ht
theorem tokL_plc (s:ByteArray):TokP s.size (tokL s):=by
 unfold tokL
 split
 ·exact ⟨by simp,by simp⟩
 ·exact tokFrom_plc s _ 0 rfl
def PlR (n:Nat) (r:PRes):Prop:=TkP n r.rest∧RdP n r.out
theorem p_plc (n:Nat):∀ f:Nat,(∀ ts out,TkP n ts → RdP n out → PlR n (pPart f ts out))∧(∀ ts out,TkP n ts → RdP n out → PlR n (pRow f ts out))∧(∀ ts out,TkP n ts → RdP n out → PlR n (pRows f ts out)) ∧
  (∀ ts out,TkP n ts → RdP n out → PlR n (pTerm f ts out))∧(∀ ts out,TkP n ts → RdP n out → PlR n (pTerms f ts out))
 | f=>by
  have hpart:∀ ts out,TkP n ts → RdP n out → PlR n (pPart f ts out):=by
   intro ts out ht ho
   rw [pPart.eq_def]
   cases f with
   | zero=>exact ⟨ht,ho⟩
   | succ f =>
    obtain ⟨_,_,_,hT,_⟩:=p_plc n f
    simp only
    by_cases hy:isSym ts 40=true
    ·rw [if_pos hy]
     have h1:=hT ts.tail out ht.tail ho
     cases hq:pTerm f ts.tail out with
     | mk bad r o =>
      rw [hq] at h1
      cases bad with
      | true=>exact h1
      | false =>
       simp only
       split
       ·exact ⟨h1.1.tail,h1.2⟩
       ·exact h1
    ·rw [if_neg hy]
     cases ts with
     | nil=>exact ⟨ht,ho⟩
     | cons t r =>
      have hr:TkP n r:=ht.tail
      have ht0:Plc n t.pos:=ht t (List.mem_cons_self ..)
      simp only
      split
      ·split
       ·cases r with
        | nil=>exact ⟨hr,ho⟩
        | cons m r2 =>
         simp only
         split
         ·exact ⟨hr.tail,ho.snoc ht0⟩
         ·exact ⟨hr,ho⟩
       ·exact ⟨hr,ho.snoc ht0⟩
      ·exact ⟨ht,ho⟩
  have hrows:∀ ts out,TkP n ts → RdP n out → PlR n (pRows f ts out):=by
   intro ts out ht ho
   rw [pRows.eq_def]
   cases f with
   | zero=>exact ⟨ht,ho⟩
   | succ f =>
    obtain ⟨hP,_,hR,_,_⟩:=p_plc n f
    simp only
    split
    ·have h1:=hP ts.tail out ht.tail ho
     cases hq:pPart f ts.tail out with
     | mk bad r o =>
      rw [hq] at h1
      cases bad with
      | true=>exact h1
      | false=>exact hR r _ h1.1 (h1.2.snoc ht.head)
    ·exact ⟨ht,ho⟩
  have hrow:∀ ts out,TkP n ts → RdP n out → PlR n (pRow f ts out):=by
   intro ts out ht ho
   rw [pRow.eq_def]
   have h1:=hpart ts out ht ho
   cases hq:pPart f ts out with
   | mk bad r o =>
    rw [hq] at h1
    cases bad with
    | true=>exact h1
    | false=>exact hrows r o h1.1 h1.2
  have hterms:∀ ts out,TkP n ts → RdP n out → PlR n (pTerms f ts out):=by
   intro ts out ht ho
   rw [pTerms.eq_def]
   cases f with
   | zero=>exact ⟨ht,ho⟩
   | succ f =>
    obtain ⟨_,hP,_,_,hR⟩:=p_plc n f
    simp only
    split
    ·have h1:=hP ts.tail out ht.tail ho
     cases hq:pRow f ts.tail out with
     | mk bad r o =>
      rw [hq] at h1
      cases bad with
      | true=>exact h1
      | false=>exact hR r _ h1.1 (h1.2.snoc ht.head)
    ·exact ⟨ht,ho⟩
  refine ⟨hpart,hrow,hrows,fun ts out ht ho=>?_,hterms⟩
  rw [pTerm.eq_def]
  have h1:=hrow ts out ht ho
  cases hq:pRow f ts out with
  | mk bad r o =>
   rw [hq] at h1
   cases bad with
   | true=>exact h1
   | false=>exact hterms r o h1.1 h1.2
theorem chkGo_plc {n:Nat} {leaf:Nd → Option W2}:∀ (o:Rd) (i:Nat) (st:List W2) (p:Int × Int),RdP n o → chkGo leaf o i st=some p → Plc n p.1
 | [],_,_,_,_,h=>by simp [chkGo] at h
 | x :: r,i,st,p,ho,h=>by
  have hx:Plc n x.2:=ho x (List.mem_cons_self ..)
  have hr:RdP n r:=fun y hy=>ho y (List.mem_cons_of_mem _ hy)
  rw [chkGo.eq_def] at h
  simp only at h
  split at h
  ·cases h;exact hx
  ·split at h
   ·split at h
    ·split at h
     ·exact chkGo_plc r _ _ p hr h
     ·cases h;exact hx
    ·cases h;exact hx
   ·split at h
    ·exact chkGo_plc r _ _ p hr h
    ·cases h;exact hx
theorem readT_plc (L:List Df) (s:ByteArray):0≤(readT L s).2.1∧(readT L s).2.1≤s.size:=by
 show Plc s.size _
 have z:Plc s.size 0:=⟨by simp,by simp⟩
 unfold readT
 split
 ·unfold parsT
  have h1:=tokL_plc s
  cases ht:tokL s with
  | error p=>rw [ht] at h1;exact h1
  | ok ts =>
   rw [ht] at h1
   simp only
   unfold wholeL
   have h2:=((p_plc s.size ts.length).2.2.2.1) ts [] h1 (by intro x hx;cases hx)
   cases hq:pTerm ts.length ts [] with
   | mk bad r o =>
    rw [hq] at h2
    cases bad with
    | true=>exact h2.1.posAt
    | false =>
     simp only
     split
     ·exact h2.1.posAt
     ·cases hc:chkGo (leafIn L) o 0 [] with
      | none=>exact z
      | some p=>exact chkGo_plc o 0 [] p h2.2 hc
 ·exact z
theorem readT_ok {L:List Df} {s:ByteArray} (hg:good L=true) (h:(readT L s).2.2=0):(readT L s).1=[]∨∃ x,typedL (leafIn L) (readT L s).1=some x:=by
 unfold readT at h ⊢
 rw [if_pos hg] at h ⊢
 unfold parsT at h ⊢
 cases ht:tokL s with
 | error p=>exact .inl rfl
 | ok ts =>
  rw [ht] at h
  simp only at h ⊢
  cases hw:wholeL L s.size ts with
  | error p=>exact .inl rfl
  | ok ns =>
   obtain ⟨x,hx⟩:=whole_typed (ts:=ts) (tokL_ok ht).1 hw
   exact .inr ⟨x,hx⟩
theorem readT_back (full:Bool) {L:List Df} {ns:List Nd} {x:W2} (hg:good L=true) (h:typedL (leafIn L) ns=some x):readT L (prT full (treeL ns))=(ns,0,0):=by
 obtain ⟨ts,h1,h2⟩:=read_back full hg h
 unfold readT
 rw [if_pos hg]
 unfold parsT
 rw [h1]
 simp only
 rw [h2]
 rfl
theorem readT_nds (L:List Df) (s:ByteArray):NdsOk (readT L s).1:=by
 have z:NdsOk []:=⟨by simp,by simp⟩
 unfold readT
 split
 ·unfold parsT
  cases ht:tokL s with
  | error p=>exact z
  | ok ts =>
   simp only
   have hr:=(p_ok ts.length).2.2.2.1 ts [] (tokL_ok ht).1
   cases hw:wholeL L s.size ts with
   | error p=>exact z
   | ok ns =>
    obtain ⟨x,hx⟩:=whole_typed (ts:=ts) (tokL_ok ht).1 hw
    have hl:=typedL_len hx
    unfold wholeL at hw
    cases hq:pTerm ts.length ts [] with
    | mk bad r o =>
     rw [hq] at hw hr
     cases bad with
     | true=>cases hw
     | false =>
      simp only at hw
      obtain ⟨nw,hn,_,hp⟩:=hr.new rfl
      simp only [List.nil_append] at hn
      subst hn
      split at hw
      ·cases hw
      ·split at hw
       ·cases hw
       ·obtain rfl:=Except.ok.inj hw
        refine ⟨fun d hd=>?_,by show (List.map Prod.fst o).length≤_;omega⟩
        obtain ⟨y,hy,rfl⟩:=List.mem_map.1 hd
        have:=(hp y hy).size
        omega
 ·exact z
end Go.Proofs.YtikgblkfmpecfaaGreatDoor
