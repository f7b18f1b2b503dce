/-
  The walk of isLibrary. Own work.
-/
import Derived.Test.YtbljmfcifljkaaaGreatDoorYF
import Derived.Test.YtbljmfcifljkaaaGreatDoorYA
import Derived.Test.YtbljmfcifljkaaaGreatDoorYB
import Derived.Test.YtbljmfcifljkaaaGreatDoorYC
import Derived.WalkSpells
set_option linter.all false
set_option maxRecDepth 100000
set_option maxHeartbeats 8000000
namespace Go.Proofs.YtbljmfcifljkaaaGreatDoor
open Go.RowKit
end Go.Proofs.YtbljmfcifljkaaaGreatDoor
/-
  Copies of nodes, terms and definitions (program and reference). Own work.
-/
namespace Go.Proofs.YtbljmfcifljkaaaGreatDoor
open Go.RowKit
theorem hd_src {w:World} {v:Value} {ns:List Nd} (h:NdsAt w v ns) (hn:ns.length≤1048576) {ops:Array Oper} {rest:List Oper} {o:Oper} {a:Act} {Q:Exit → Act → World → Prop} (hgd:o.guard=none) (s x:Operand)
  (ho:o.op=.call { callee:=.builtin .append,args:=#[s,x],argTypes:=#[28,28] })
  (B:Nat) (u:Value) (xs:List Nd) (hs:a.eval s=u) (hx:a.eval x=v) (hown:NdsOwn w B u xs) (hB:B≤w.heap.size) (hl:xs.length≤1048576)
  (H:∀ v' w',NdsOwn w' B v' (xs ++ ns) → w.grownBy w' u.ownBlock → (v'.ownBlock=u.ownBlock∨v'.ownBlock=some w.heap.size) → wpList Tryz.prog ops Q rest (a.put o.dst v') w'):wpList Tryz.prog ops Q (o :: rest) a w:=by
 obtain ⟨i0,hi,hz0,hz1,hz2⟩:=info_parts info170
 refine wpList_append_src hgd s x 28 ho B 144 i0 _ 3 32 Tryz.underlying28 hi hz0 hz1 hz2 rfl (by decide) u xs.length _ hs hown v ns.length _ hx (nds_src h) (ndCells_one ns) (by unfold maxLen;omega) (by omega) hB ?_
 intro v' w' h1 h2 h3
 refine H v' w' ?_ h2 h3
 unfold NdsOwn
 rw [List.length_append,List.flatMap_append]
 exact h1
theorem nds_empty (w:World) (g B:Nat) (hg:g=w.heap.size) (hB:B≤w.heap.size):NdsOwn (w.alloc (.cells #[] 144)) B (.slice (some ⟨g,0,none⟩) 0 0) []:=by
 subst hg
 have:=World.ownsRow_made (base:=B) (size:=3) (e:=144) w #[] 0 hB (by unfold maxLen;omega) rfl
 simpa [NdsOwn] using this
theorem tmOwn_any (v:Value) (ns:List Nd) (w:World) (hv:NdsAt w v ns) (hn:ns.length≤1048576) :
  Calls Tryz.prog 39 #[v] w fun e w'=>∃ v',e=.returned (.agg #[v'])∧NdsOwn w' w.heap.size v' ns∧Below w.heap.size w w':=by
 obtain ⟨a,cap,rfl⟩:=hv.slice
 go_enter Tryz.func39,Tryz.ntmps39
 go_wp2_with (at_builtin;refine hd_src (hv.keep (((Below.refl _ _).alloc (Nat.le_refl _) _).alloc (by simp) _)) hn rfl (.tmp 3) (.tmp 4) rfl (w.heap.size+1) (.slice (some ⟨w.heap.size+1,0,none⟩) 0 0) [] rfl rfl (nds_empty (w.alloc (.cells #[.slice none 0 0] 30)) _ _ (by simp) (by simp)) (by simp) (by simp) ?_;intro v' w' h1 h2 h3;obtain ⟨ao,cp,rfl⟩:=h1.slice;have hb1:Below (w.heap.size+1) (w.alloc (.cells #[.slice none 0 0] 30)) w':=((Below.refl _ _).alloc (by simp) _).grown h2 (by simp) (fun k hk=>by simp [Value.ownBlock] at hk;omega);have q0:=hb1.cell (p:=⟨w.heap.size,0,none⟩) (by simp);have q1:=hb1.frozen (p:=⟨w.heap.size,0,none⟩) (by simp);simp [go_sem] at q0 q1)
 refine bodyPost_ret (v:=.agg #[.slice ao ns.length cp]) (by simp [results,Tryz.results39,go_sem,q0]) rfl ⟨_,rfl,?_,?_⟩
 ·have h1':NdsOwn w' (w.heap.size+1) (.slice ao ns.length cp) ns:=by simpa using h1
  exact (h1'.setLow (by simp) _).mono (by omega)
 ·exact (((Below.refl _ _).alloc (Nat.le_refl _) _).trans (hb1.mono (by omega))).setCell (by simp) _
end Go.Proofs.YtbljmfcifljkaaaGreatDoor
/-
  copyLibrary and lbOwn: libraries that share nothing. Own work.
-/
namespace Go.Proofs.YtbljmfcifljkaaaGreatDoor
open Go.RowKit
def CpSt (w wr:World) (B:Nat) (v:Value) (L:List Df) (k:Nat):Prop:=∃ xs:List (Df × Value),xs.map Prod.fst=L.take k∧DfsRow wr B v xs∧Below w.heap.size w wr∧w.heap.size≤B∧B≤wr.heap.size
theorem CpSt.step {w wr w2 w':World} {B k:Nat} {v v' vb:Value} {L:List Df} {xs:List (Df × Value)} {o:Obj} (e:xs.map Prod.fst=L.take k) (hbel:Below w.heap.size w wr) (hwB:w.heap.size≤B) (hB:B≤wr.heap.size) (hk:k<L.length)
  (hb2:Below wr.heap.size wr w2) (hr:DfsRow w' B v' (xs ++ [(L[k],vb)])) (hv:∀ j,v.ownBlock=some j → w.heap.size≤j) (hg:(w2.alloc o).grownBy w' v.ownBlock):CpSt w w' B v' L (k+1):=by
 have h2:=hb2.size
 have h3:=hg.size
 have h1:=hbel.size
 simp only [World.size_alloc] at h3
 refine ⟨_,?_,hr,?_,hwB,by omega⟩
 ·rw [List.map_append,e,List.take_succ_eq_append_getElem hk];rfl
 ·exact ((hbel.trans (hb2.mono h1)).alloc (by omega) o).grown hg (by simp;omega) hv
end Go.Proofs.YtbljmfcifljkaaaGreatDoor
/-
  The program's AddDef, RemoveDef and validLibrary. Own work.
-/
namespace Go.Proofs.YtbljmfcifljkaaaGreatDoor
open Go.RowKit
theorem good_ok {L:List Df} (h:good L=true):(∀ d ∈ L,DfOk d)∧L.length≤1048576:=by
 have hb:=good_bnd h
 have hl:=good_len h
 refine ⟨fun d hd=>?_,by omega⟩
 obtain ⟨h1,h2,h3⟩:=hb d hd
 exact ⟨by omega,fun n hn=>by have:=h3 n hn;omega,by omega⟩
end Go.Proofs.YtbljmfcifljkaaaGreatDoor
