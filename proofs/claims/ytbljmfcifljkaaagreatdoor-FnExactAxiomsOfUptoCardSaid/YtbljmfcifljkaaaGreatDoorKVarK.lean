/-
  A law's row that names a table variable: what it reads as before and behind the call; the table of the smallest primes. Own work.
-/
import Derived.Test.YtbljmfcifljkaaaGreatDoorKZ
import Derived.Test.YtbljmfcifljkaaaGreatDoorKFL
import Derived.Stop.LaidErr
import Derived.Lib.LaidTab
import Derived.OpenShut
import Derived.ChangeVars
import Derived.ChangeOld
set_option linter.all false
set_option maxRecDepth 100000
set_option maxHeartbeats 8000000
namespace Go.Proofs.YtbljmfcifljkaaaGreatDoor
open Go.ChangeShapes Go.WideShapes Go.ChangeAt Go.RowKit
theorem varKeep {W W':World} {n:String} {cs:Array Value} (hb:Below W.heap.size W W') (h:W.var? Tryz.prog n=some cs):W'.var? Tryz.prog n=some cs:=by
 unfold World.var? at h ⊢;cases hg:Tryz.prog.globalNamed n with
 | none=>simp[hg]at h
 | some g =>
  simp only[hg,Option.bind_some]at h ⊢
  have hlt:g<W.heap.size:=by
   rcases Nat.lt_or_ge g W.heap.size with h'|h'
   ·exact h'
   ·simp[Array.getElem?_eq_none h']at h
  rw[hb.block g hlt]
  exact h
theorem gPrm : Tryz.prog.globalNamed "loop.example/g01073/impl.smallPrimes"=some 0:=by kernel_rfl
theorem gPrmType:(Tryz.prog.globals[0]?).map (·.type)=some 217:=by kernel_rfl
theorem cellsPrm:Tryz.prog.cellsOf 217=4:=by kernel_rfl
theorem cellsInt:Tryz.prog.cellsOf 3=1:=by kernel_rfl
theorem typesPrm:217<Tryz.prog.types.size:=of_decide_eq_true (by kernel_rfl)
theorem varsKeep {H:Type} {enc:TypeId×Value→H} {W W':World} {gs:List (DataW H)} {q:List MemPlace} (hV:DataW.TrodVars enc Tryz.prog W (fun _=>true) ["loop.example/g01073/impl.smallPrimes"] gs q) (hb:Below W.heap.size W W') (sp:Nat→Bool) (hs:∀p∈q,sp p.block=true) :
  DataW.TrodVars enc Tryz.prog W' sp ["loop.example/g01073/impl.smallPrimes"] gs q:=by
 have hlt:=hV.lt;obtain⟨g,t,cs,fuel,d,p,rfl,h1,h2,h3,h4,rfl⟩:=trodVars_one hV;obtain rfl:=Option.some.inj (gPrm.symm.trans h1);obtain rfl:=Option.some.inj (gPrmType.symm.trans h2);exact trodVars_mk1 h1 h2 (varKeep hb h3) (DataW.trod_respare kids full fuel _ _ (d,p) typesPrm (DataW.trod_carry fuel _ _ (d,p) h4 (fun x hx=>sameAt_of_below hb (hlt x (List.mem_append_right _ hx)))) (fun x hx=>hs x (List.mem_append_right _ hx)))
theorem primeTab_of {W:World} {rest:List (String×DataW Unit)} (h:laidMet Tryz.prog (("loop.example/g01073/impl.smallPrimes",Lib.tabData .i64 [2,3,5,7])::rest) W):PrimeTab W:=by
 have hT:=Lib.tabIs_of_head gPrm gPrmType Tryz.underlying217 Tryz.underlying3 cellsInt cellsPrm h;unfold Lib.TabIs at hT;refine⟨?_,?_,?_,?_⟩
 ·simpa using World.var?_cell gPrm hT 0
 ·simpa using World.var?_cell gPrm hT 1
 ·simpa using World.var?_cell gPrm hT 2
 ·simpa using World.var?_cell gPrm hT 3
end Go.Proofs.YtbljmfcifljkaaaGreatDoor
