/-
  What every card of this seat shares: the arguments' read-back where nothing old was turned. Own work, in the frame of the seat's UptoLaidToy.lean.
-/
import Derived.Test.YtbljmfcifljkaaaGreatDoorRows
import Derived.WalkKit
import Derived.ProofKit
import Derived.OpenShut
import Derived.ReadAgain
import Derived.KernelRfl
import Derived.Test.YtbljmfcifljkaaaGreatDoorXAB
import Derived.Stop.LaidErr
import Derived.Lib.LaidTab
import Derived.ChangeVars
import Derived.ChangeOld
import Derived.Lib.LaidIn
import Derived.Test.YtbljmfcifljkaaaGreatDoorCards
import Derived.Test.YtbljmfcifljkaaaGreatDoorTie
import Derived.Deep.DeepHandedRow
import Derived.Deep.DeepWitnessRowRef
set_option linter.all false
set_option maxRecDepth 100000
set_option maxHeartbeats 8000000
namespace Go.Proofs.YtbljmfcifljkaaaGreatDoor
open Go.ChangeShapes Go.WideShapes Go.ChangeAt Go.RowKit
theorem own:ownKnob Tryz.prog.godebug=none:=by kernel_rfl
theorem kids:Kids Tryz.prog (·<Tryz.prog.types.size):=kids_rows (by kernel_rfl) (by kernel_rfl)
theorem full:∀ t e,t<Tryz.prog.types.size → Tryz.prog.underlying t=some (.slice e) → 0<Tryz.prog.cellsOf e:=slices_full_of Tryz.prog (by kernel_rfl)
theorem sameAt_of_below {W W':World} (h:Below W.heap.size W W') {p:MemPlace} (hp:p.block<W.heap.size):W.sameAt W' p:=by
 cases p with
 | cell b o=>exact h.cell (p:=⟨b,o,none⟩) hp
 | map b=>exact h.block b hp
theorem carryAll {H:Type} {enc:TypeId × Value → H} {P:Program} {W W':World} {base:Nat} {spare:Nat → Bool} {held:Bool}:∀ {ts:List TypeId} {vs:List Value} {ds:List (DataW H)} {ps:List MemPlace},
  DataW.TrodAll enc P W base spare held ts vs ds ps → (∀ p ∈ ps,W.sameAt W' p) → DataW.TrodAll enc P W' base spare held ts vs ds ps
 | [],[],[],_,h,_=>h
 | _ :: _,_ :: _,_ :: _,_,⟨p,q,⟨n,h1⟩,h2,e⟩,hs =>
  ⟨p,q,⟨n,DataW.trod_carry n _ _ _ h1 (fun x hx=>hs x (by rw [e];exact List.mem_append_left _ hx))⟩,carryAll h2 (fun x hx=>hs x (by rw [e];exact List.mem_append_right _ hx)),e⟩
theorem post_below {H:Type} {enc:TypeId × Value → H} {P:Program} {f:Func} {s:ChangeSpec} {apart fresh handsOn again:Bool} {W W':World} {args:Array Value} {v:Value} {ds gs:List (DataW H)} {before pa pv:List MemPlace}
  (hW:DataW.Whole enc P f.params.toList s.vars apart W args.toList ds gs before)
  (hres:∀ (b:Nat) (sp:Nat → Bool) (hd:Bool),DataW.TrodAll enc P W' b sp hd f.resultTypes.toList (v.resultList f.resultTypes.size) (s.fn H (ds ++ gs)).results [])
  (hargs:∀ sp:Nat → Bool,(∀ p ∈ before,sp p.block=true) → DataW.TrodAll enc P W' 0 sp true f.params.toList args.toList (s.fn H (ds ++ gs)).args pa)
  (hvars:∀ sp:Nat → Bool,(∀ p ∈ before,sp p.block=true) → DataW.TrodVars enc P W' sp s.vars (s.fn H (ds ++ gs)).vars pv)
  (hps:before=pa ++ pv) (hg:Below W.heap.size W W')
  (hok:∀ (j:Nat) (t:TypeId) (r:Value),f.resultTypes[j]?=some t → (v.resultList f.resultTypes.size)[j]?=some r → Value.okWide P W' .any 0 t r) :
  s.post enc P f apart fresh handsOn again W args v W':=by
 have hold:∀ p ∈ before,(fun b=>decide (b<W.heap.size)) p.block=true:=fun p hp=>by simpa using hW.lt p hp
 have hwl:=hW.lt
 refine ⟨ds,gs,before,[],pa,pv,hW,hres _ _ _,hargs _ hold,hvars _ hold,World.keptBut_mono (fun p hp=>⟨hp,?_⟩) (hg.frame _),fun _=>?_⟩
 ·rw [hps,List.mem_append] at hp
  exact Or.inr hp
 ·obtain ⟨_,_,_,_,_,hz,hn⟩:=hW
  refine ⟨hok,_,_,([] ++ pa) ++ pv,⟨[] ++ pa,pv,trodAll_append (hargs _ (fun _ _=>rfl)) (hres _ _ _),hvars _ (fun _ _=>rfl),rfl,?_,?_⟩,?_⟩
  ·intro b off hp
   have hp':MemPlace.cell b off ∈ before:=by rw [hps];simpa using hp
   rw [hg.frozen (hwl _ hp')]
   exact hz b off hp'
  ·intro ha
   have:=hn ha
   rw [hps] at this
   simpa using this
  ·intro p hp _
   rw [hps]
   simpa using hp
end Go.Proofs.YtbljmfcifljkaaaGreatDoor
/-
  A law's row that names a table variable: what it reads as before and behind the call; the table of the smallest primes. Own work.
-/
namespace Go.Proofs.YtbljmfcifljkaaaGreatDoor
open Go.ChangeShapes Go.WideShapes Go.ChangeAt Go.RowKit
theorem varKeep {W W':World} {n:String} {cs:Array Value} (hb:Below W.heap.size W W') (h:W.var? Tryz.prog n=some cs):W'.var? Tryz.prog n=some cs:=by
 unfold World.var? at h ⊢
 cases hg:Tryz.prog.globalNamed n with
 | none=>simp [hg] at h
 | some g =>
  simp only [hg,Option.bind_some] at h ⊢
  have hlt:g<W.heap.size:=by
   rcases Nat.lt_or_ge g W.heap.size with h'|h'
   ·exact h'
   ·simp [Array.getElem?_eq_none h'] at h
  rw [hb.block g hlt]
  exact h
theorem gPrm : Tryz.prog.globalNamed "loop.example/g01073/impl.smallPrimes" = some 0 := by kernel_rfl
theorem gPrmType:(Tryz.prog.globals[0]?).map (·.type)=some 217:=by kernel_rfl
theorem cellsPrm:Tryz.prog.cellsOf 217=4:=by kernel_rfl
theorem cellsInt:Tryz.prog.cellsOf 3=1:=by kernel_rfl
theorem typesPrm:217<Tryz.prog.types.size:=of_decide_eq_true (by kernel_rfl)
theorem varsKeep {H : Type} {enc : TypeId × Value → H} {W W' : World} {gs : List (DataW H)} {q : List MemPlace} (hV : DataW.TrodVars enc Tryz.prog W (fun _ => true) ["loop.example/g01073/impl.smallPrimes"] gs q) (hb : Below W.heap.size W W') (sp : Nat → Bool) (hs : ∀ p ∈ q, sp p.block = true) :
  DataW.TrodVars enc Tryz.prog W' sp ["loop.example/g01073/impl.smallPrimes"] gs q := by
 have hlt:=hV.lt
 obtain ⟨g,t,cs,fuel,d,p,rfl,h1,h2,h3,h4,rfl⟩:=trodVars_one hV
 obtain rfl:=Option.some.inj (gPrm.symm.trans h1)
 obtain rfl:=Option.some.inj (gPrmType.symm.trans h2)
 exact trodVars_mk1 h1 h2 (varKeep hb h3) (DataW.trod_respare kids full fuel _ _ (d,p) typesPrm (DataW.trod_carry fuel _ _ (d,p) h4 (fun x hx=>sameAt_of_below hb (hlt x (List.mem_append_right _ hx)))) (fun x hx=>hs x (List.mem_append_right _ hx)))
theorem primeTab_of {W : World} {rest : List (String × DataW Unit)} (h : laidMet Tryz.prog (("loop.example/g01073/impl.smallPrimes", Lib.tabData .i64 [2, 3, 5, 7]) :: rest) W) : PrimeTab W := by
 have hT:=Lib.tabIs_of_head gPrm gPrmType Tryz.underlying217 Tryz.underlying3 cellsInt cellsPrm h
 unfold Lib.TabIs at hT
 refine ⟨?_,?_,?_,?_⟩
 ·simpa using World.var?_cell gPrm hT 0
 ·simpa using World.var?_cell gPrm hT 1
 ·simpa using World.var?_cell gPrm hT 2
 ·simpa using World.var?_cell gPrm hT 3
end Go.Proofs.YtbljmfcifljkaaaGreatDoor
/-
  A world for AxiomsOf's witness: as LaidW's, with the table of the smallest primes laid too. Own work.
-/
namespace Go.Proofs.YtbljmfcifljkaaaGreatDoor
open Go.ChangeShapes Go.WideShapes Go.ChangeAt Go.RowKit
def tab32:List Int:=[0,1,28,2,29,14,24,3,30,22,20,15,25,17,4,8,31,27,13,23,21,19,16,7,26,12,18,6,11,5,10,9]
def tab64:List Int:=[0,1,56,2,57,49,28,3,61,58,42,50,38,29,17,4,62,47,59,36,45,43,51,22,53,39,33,30,24,18,12,5,63,55,48,27,60,41,37,16,46,35,44,21,52,32,23,11,54,26,40,15,34,20,31,10,25,14,19,9,13,8,7,6]
def tabPow:List Int:=[1,10,100,1000,10000,100000,1000000,10000000,100000000,1000000000,10000000000,100000000000,1000000000000,10000000000000,100000000000000,1000000000000000,10000000000000000,100000000000000000,1000000000000000000,10000000000000000000]
def txtRange:ByteArray:=⟨#[118,97,108,117,101,32,111,117,116,32,111,102,32,114,97,110,103,101]⟩
def txtSyntax:ByteArray:=⟨#[105,110,118,97,108,105,100,32,115,121,110,116,97,120]⟩
noncomputable def laidWorld (os:Os):World :=
 let N:=(World.settled Tryz.prog os).heap.size
 let w0:=World.holding Tryz.prog os ⟨#[.cells #[.string txtRange] 390,.cells #[.string txtSyntax] 390],#[],[]⟩
 let put (h:Array Obj) (g:Nat) (cs:Array Value):Array Obj:=h.modify g fun
  | .cells _ t frozen=>.cells cs t frozen
  | o=>o
 let h1:=put w0.heap 7 (tab32.map fun z=>Value.int .u8 z).toArray
 let h2:=put h1 8 (tab64.map fun z=>Value.int .u8 z).toArray
 let h3:=put h2 3 (tabPow.map fun z=>Value.int .u64 z).toArray
 let h4:=put h3 2 #[.iface 388 (.pointer (some ⟨N,0,none⟩))]
 let h5:=put h4 1 #[.iface 388 (.pointer (some ⟨N+1,0,none⟩))]
 let h6:=put h5 0 #[.int .i64 2,.int .i64 3,.int .i64 5,.int .i64 7]
 { w0 with heap:=h6 }
end Go.Proofs.YtbljmfcifljkaaaGreatDoor
/-
  The program's closed facts that every card of this seat shares. Own work.
-/
namespace Go.Proofs.YtbljmfcifljkaaaGreatDoor
theorem g_laidOut:(laidOutB Tryz.prog)=true:=by kernel_rfl
theorem g_mapsRowed:(mapsRowed Tryz.prog)=true:=by kernel_rfl
theorem g_stops:((Tryz.prog.stops == []))=true:=by kernel_rfl
theorem g_knobs:((Tryz.prog.stopKnobs == []))=true:=by kernel_rfl
theorem g_heard:(Tryz.prog.stopsHeard)=true:=by kernel_rfl
theorem g_enter:(Tryz.prog.mayEnter)=true:=by kernel_rfl
theorem g_looks:true=Tryz.prog.looks []:=by kernel_rfl
theorem g_main : Tryz.prog.mainIs = some (true, "1c0856d2490429b5c8caa99d1d74bb6271b8d61428d19658c33e4f05c66be6d4".toList) := by kernel_rfl
theorem pinnedProg:Tryz.pinned.checked.prog=Tryz.prog:=rfl
end Go.Proofs.YtbljmfcifljkaaaGreatDoor
