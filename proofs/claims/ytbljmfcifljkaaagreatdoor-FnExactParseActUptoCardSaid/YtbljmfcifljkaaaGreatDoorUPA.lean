/-
  The program's parseTerm (PtI's first half, for a seat without ParseTerm). Own work.
-/
import Derived.Test.YtbljmfcifljkaaaGreatDoorUCC
import Derived.Test.YtbljmfcifljkaaaGreatDoorUC
set_option linter.all false
set_option maxRecDepth 100000
set_option maxHeartbeats 8000000
namespace Go.Proofs.YtbljmfcifljkaaaGreatDoor
open Go.RowKit
theorem res1 {w w':World} {a:Value} {t:TypeId} (hb:Below (w.heap.size+1) (w.alloc (.cells #[a] t)) w') :
  w'.cell? ⟨w.heap.size,0,none⟩=some a∧(∀ j,w'.frozen? ⟨w.heap.size,j,none⟩=false)∧w.heap.size<w'.heap.size∧Below w.heap.size w w':=by
 refine ⟨?_,fun j=>?_,by have:=hb.size;simp at this;omega,(alloc_below _ _).trans (hb.mono (by omega))⟩
 ·rw [hb.cell (p:=⟨w.heap.size,0,none⟩) (by simp)];simp
 ·rw [hb.frozen (p:=⟨w.heap.size,j,none⟩) (by simp)];simp
theorem nds_low {w:World} {B a j:Nat} {v u:Value} {ns:List Nd} (h:NdsOwn w B v ns) (ha:a<B):NdsOwn (w.setCell ⟨a,j,none⟩ u) B v ns :=
 owns_other h ⟨a,j,none⟩ u (fun e=>by have:=(World.ownsRow.lt h _ e).1;simp at this;omega)
def parsT (L:List Df) (s:ByteArray):Except (Int × Int) (List Nd) :=
 match tokL s with
 | .error p=>.error p
 | .ok ts=>wholeL L s.size ts
def TmP (r:Except (Int × Int) (List Nd)) (w:World) (e:Ending) (w':World):Prop :=
 match r with
 | .ok ns=>∃ v,e=.returned (.tuple #[.agg #[v],.nilIface])∧NdsOwn w' w.heap.size v ns∧Below w.heap.size w w'
 | .error p=>e=.returned (.tuple #[.agg #[.slice none 0 0],errV p])∧Below w.heap.size w w'
theorem parseTerm_any (v:Value) (L:List Df) (s:ByteArray) (w:World) (hv:DfsAt w v L) (hg:good L=true) (hs:s.size≤4194304) :
  Calls Tryz.prog 95 #[v,.string s] w (TmP (parsT L s) w):=by
 have htk:=tokenize_any s (w.alloc (.cells #[.slice none 0 0] 30)) hs
 unfold parsT
 cases ht:tokL s with
 | error p =>
  rw [ht] at htk
  clear ht
  go_enter Tryz.func95,Tryz.ntmps95
  go_wp2_with (go_at_call 109;refine htk.mono ?_;rintro e w1 ⟨rfl,hb1⟩;simp only [errV];obtain ⟨r0,rf,rz,hb⟩:=res1 (hb1.mono (by simp)))
  refine bodyPost_ret (v:=.tuple #[.agg #[.slice none 0 0],errV p]) (by simp [results,Tryz.results95,go_sem,errV,r0,rf,rz]) rfl ?_
  refine ⟨rfl,?_⟩
  (repeat (first|(with_reducible refine Below.alloc ?_ ?_ _;rotate_left;(first|omega|(simp;done)|(simp;omega)))|(with_reducible refine Below.setCell ?_ ?_ _;rotate_left;(first|exact Nat.le_refl _|(simp;done)|(simp;omega)))|(with_reducible refine Below.drew ?_)));exact hb
 | ok ts =>
  rw [ht] at htk
  obtain ⟨hok,htl,_⟩:=tokL_ok ht
  have hwh:∀ (br:Nat) (w4:World),ParAt (br+1) br s.size w4 ts [] → (∀ w',Fr w4.heap.size br w4 w' → DfsAt w' v L) → Calls Tryz.prog 114 #[.pointer (some ⟨br,0,none⟩),v] w4 (WhPost (wholeL L s.size ts) br w4):=fun br w4 h1 h2=>whole_any (br+1) br s.size v L ts w4 h1 (by omega) hg h2
  simp only
  obtain ⟨rr,hrr⟩:∃ rr,wholeL L s.size ts=rr:=⟨_,rfl⟩
  rw [hrr] at hwh ⊢
  have HW:=Lib.hid hwh
  clear hwh hrr ht
  obtain ⟨a,cap,rfl⟩:∃ a cap,v=.slice a L.length cap:=by obtain ⟨a,cap,rfl,_⟩:=hv;exact ⟨a,cap,rfl⟩
  go_enter Tryz.func95,Tryz.ntmps95
  go_wp2_with fail
  refine htk.mono ?_
  rintro e w1 ⟨v1,rfl,ho1,hb1⟩
  obtain ⟨a1,c1,rfl⟩:=owns_shape ho1
  have hB1:Below (w.heap.size+1) (w.alloc (.cells #[.slice none 0 0] 30)) w1:=hb1.mono (by simp)
  have zw1:w.heap.size+1≤w1.heap.size:=by have:=hB1.size;simpa using this
  go_wp2_with fail
  have hup:∀ w',Fr (w1.heap.size+1) w1.heap.size (w1.alloc (.cells #[.slice a1 ts.length c1,.int .i64 s.size,.slice none 0 0] 161)) w' → Below (w.heap.size+1) (w.alloc (.cells #[.slice none 0 0] 30)) w':=fun w' hF =>
   hB1.trans (((Below.refl _ _).alloc zw1 _).trans (below_of_fr hF zw1 (by omega)))
  refine (HW.out w1.heap.size _ (par_start ho1 hok _ (Below.refl _ _)) (fun w' hF=>(hv.keep (alloc_below _ _)).keep ((hup w' (by simpa using hF)).mono (by simp)))).mono ?_
  rintro e w5 hwp
  cases rr with
  | error p =>
   obtain ⟨rfl,hF5⟩:=hwp
   obtain ⟨r0,rf,rz,hb⟩:=res1 (hup w5 (by simpa using hF5))
   simp only [errV]
   go_wp2
   refine bodyPost_ret (v:=.tuple #[.agg #[.slice none 0 0],errV p]) (by simp [results,Tryz.results95,go_sem,errV,r0,rf,rz]) rfl ?_
   refine ⟨rfl,?_⟩
   (repeat (first|(with_reducible refine Below.alloc ?_ ?_ _;rotate_left;(first|omega|(simp;done)|(simp;omega)))|(with_reducible refine Below.setCell ?_ ?_ _;rotate_left;(first|exact Nat.le_refl _|(simp;done)|(simp;omega)))|(with_reducible refine Below.drew ?_)));exact hb
  | ok ns =>
   obtain ⟨vb,rfl,hob,hF5⟩:=hwp
   obtain ⟨ab,cb,rfl⟩:=hob.slice
   obtain ⟨r0,rf,rz,hb⟩:=res1 (hup w5 (by simpa using hF5))
   have hlow:w.heap.size<(w1.alloc (.cells #[.slice a1 ts.length c1,.int .i64 s.size,.slice none 0 0] 161)).heap.size:=by simp;omega
   go_wp2
   refine bodyPost_ret (v:=.tuple #[.agg #[.slice ab ns.length cb],.nilIface]) (by simp [results,Tryz.results95,go_sem,r0,rf,rz]) rfl ?_
   refine ⟨_,rfl,(nds_low hob hlow).mono (Nat.le_of_lt hlow),?_⟩
   (repeat (first|(with_reducible refine Below.alloc ?_ ?_ _;rotate_left;(first|omega|(simp;done)|(simp;omega)))|(with_reducible refine Below.setCell ?_ ?_ _;rotate_left;(first|exact Nat.le_refl _|(simp;done)|(simp;omega)))|(with_reducible refine Below.drew ?_)));exact hb
end Go.Proofs.YtbljmfcifljkaaaGreatDoor
