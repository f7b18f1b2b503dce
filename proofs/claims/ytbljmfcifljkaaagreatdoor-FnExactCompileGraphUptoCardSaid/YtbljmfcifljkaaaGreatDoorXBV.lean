/-
  FnExactCompileGraph, the second form's card: for all arguments of bulk at most 1048576 the law answers true and leaves its arguments as they were. Conditions: none beyond the row's own.
  Own work, in the frame of the seat's UptoLaidToy.lean; by a program of my own (card.py).
-/
import Derived.Test.YtbljmfcifljkaaaGreatDoorXBU
import Derived.Test.YtbljmfcifljkaaaGreatDoorXBT
import Derived.Test.YtbljmfcifljkaaaGreatDoorXBS
set_option linter.all false
set_option maxRecDepth 100000
set_option maxHeartbeats 8000000
namespace Go.Proofs.YtbljmfcifljkaaaGreatDoor.cardCg
open Go.ChangeShapes Go.WideShapes Go.ChangeAt Go.RowKit
theorem joined:joinedFacts Tryz.prog 7 Tryz.f7 (Rows.OpenSpec.upto Rows.fnExactCompileGraphSpec).bare Rows.fnExactCompileGraphUptoRow=true:=by
 unfold joinedFacts
 simp only [Bool.and_eq_true]
 refine ⟨?_,j31⟩
 refine ⟨?_,j30⟩
 refine ⟨?_,j29⟩
 refine ⟨?_,j28⟩
 refine ⟨?_,j27⟩
 refine ⟨?_,j26⟩
 refine ⟨?_,g_enter⟩
 refine ⟨?_,g_heard⟩
 refine ⟨?_,j23⟩
 refine ⟨?_,j22⟩
 refine ⟨?_,j21⟩
 refine ⟨?_,j20⟩
 refine ⟨?_,j19⟩
 refine ⟨?_,j18⟩
 refine ⟨?_,j17⟩
 refine ⟨?_,j16⟩
 refine ⟨?_,j15⟩
 refine ⟨?_,j14⟩
 refine ⟨?_,j13⟩
 refine ⟨?_,j12⟩
 refine ⟨?_,j11⟩
 refine ⟨?_,j10⟩
 refine ⟨?_,j9⟩
 refine ⟨?_,g_knobs⟩
 refine ⟨?_,j7⟩
 refine ⟨?_,g_stops⟩
 refine ⟨?_,j5⟩
 refine ⟨?_,j4⟩
 refine ⟨?_,j3⟩
 refine ⟨?_,g_mapsRowed⟩
 exact ⟨j0,g_laidOut⟩
theorem laid_met2 (os:Os) (args:Array Value):laidMet Tryz.prog Rows.fnExactCompileGraphUptoRow.laid ((laidWorld os).forCall (fun _ _=>0) ⟨#[],args,[]⟩).memory :=
 laidMet_of_run' 8 (by kernel_rfl) (by kernel_rfl)
def wArgs:Array Value:=#[.int .i64 0,.agg #[.int .i64 0,.slice none 0 0,.slice none 0 0,.slice none 0 0]]
theorem reads (os:Os) {H:Type} (enc:TypeId × Value → H):DataW.whole enc Tryz.prog ((laidWorld os).forCall (fun _ _=>0) ⟨#[],wArgs,[]⟩).memory Tryz.f7.params.toList Rows.fnExactCompileGraphSpec.vars false wArgs.toList 8 =
  some ([.lit (.int .i64 0),.agg [.lit (.int .i64 0),.nil,.nil,.nil]],[.agg [.lit (.int .i64 2),.lit (.int .i64 3),.lit (.int .i64 5),.lit (.int .i64 7)]],[.cell 0 0,.cell 0 1,.cell 0 2,.cell 0 3]):=by kernel_rfl
theorem w1 (os:Os):((laidWorld os).forCall (fun _ _=>0) ⟨#[],wArgs,[]⟩).variablesRefB Tryz.prog=true:=by kernel_rfl
theorem w2 (os:Os):(((laidWorld os).forCall (fun _ _=>0) ⟨#[],wArgs,[]⟩).heap.toList.drop Tryz.prog.globals.size).take ((begin Tryz.prog (fun _ _=>0) default).world.heap.size - Tryz.prog.globals.size) =
   (begin Tryz.prog (fun _ _=>0) default).world.heap.toList.drop Tryz.prog.globals.size:=by kernel_rfl
theorem w3 (os:Os):Input.okWideB Tryz.prog ((laidWorld os).forCall (fun _ _=>0) ⟨#[],wArgs,[]⟩) 7 ⟨#[],wArgs,[]⟩=true:=by kernel_rfl
theorem w4 {H:Type}:Rows.uptoSmall H ([.lit (.int .i64 0),.agg [.lit (.int .i64 0),.nil,.nil,.nil]] ++ [.agg [.lit (.int .i64 2),.lit (.int .i64 3),.lit (.int .i64 5),.lit (.int .i64 7)]])=true:=by kernel_rfl
theorem w6 (os:Os) {H:Type} (enc:TypeId × Value → H):(Rows.OpenSpec.upto Rows.fnExactCompileGraphSpec).bare.sizedB enc Tryz.prog Tryz.f7 false ((laidWorld os).forCall (fun _ _=>0) ⟨#[],wArgs,[]⟩).memory wArgs 8=true:=by kernel_rfl
theorem liftedUpto (os:Os) (started:os.Started) (H:Type) (enc:TypeId × Value → H) (F:Stop.Interp) :
  ReturnsInHanded {} Tryz.checked os 7 .any ((Rows.OpenSpec.upto Rows.fnExactCompileGraphSpec).preRow enc Tryz.prog Tryz.f7 Rows.fnExactCompileGraphUptoRow.domain false Rows.fnExactCompileGraphUptoRow.laid) (((Rows.OpenSpec.upto Rows.fnExactCompileGraphSpec).at F).post enc Tryz.prog Tryz.f7 false true false false):=by
 refine returnsInHanded_of_row (C:=Tryz.checked) (s:=Rows.OpenSpec.upto Rows.fnExactCompileGraphSpec) own started noInit Tryz.func7
  (witness_row_atRef (enc:=enc) (C:=Tryz.checked) false (laidWorld os) wArgs rfl (w1 os) (w2 os) (w3 os)
   (OpenSpec.preRow_of_cond 8 (reads os enc) (by kernel_rfl) (fun k hk=>by cases hk;exact w4) (w6 os enc) (laid_met2 os _))) ?_
 intro W base args ds gs before hval hW _ hcond _ hL hsh _
 exact contract H enc W base args ds gs before hval hW (hcond _ rfl) hL hsh
theorem saidUpto:Rows.FnExactCompileGraphUptoSaid :=
 OpenClaim.holds_of_cond 7 Tryz.f7 rfl rfl rfl rfl rfl rfl rfl ⟨rfl,rfl,rfl,rfl,rfl⟩ rfl rfl rfl rfl rfl p1 Tryz.func7 joined inst wrap
  (fun os started H enc _ F=>by rw [OpenClaim.pre_eq_preRow];exact liftedUpto os started H enc F)
theorem plain (f : FuncId) (fn : Func) (hf : Tryz.pinned.checked.prog.funcNamed "loop.example/g01073/laws.FnExactCompileGraph" = some f) (hfn : Tryz.pinned.checked.prog.funcs[f]? = some fn) :
  true=Tryz.pinned.checked.prog.looks []∧∀ (j:Nat) t,fn.params[j]?=some t → Tryz.pinned.checked.prog.wantsStandIn t=false:=by
 rw [pinnedProg] at hf hfn ⊢
 obtain rfl:f=7:=(Option.some.inj (p1.symm.trans hf)).symm
 obtain rfl:fn=Tryz.f7:=(Option.some.inj (Tryz.func7.symm.trans hfn)).symm
 refine ⟨g_looks,fun j t ht=>?_⟩
 rw [Tryz.params7] at ht
 have hm:t ∈ #[3,42]:=Array.mem_of_getElem? ht
 have h2:t=3∨t=42:=by simpa using hm
 rcases h2 with rfl|rfl
 ·exact q0
 ·exact q1
theorem cardUpto:Rows.FnExactCompileGraphUptoCardSaid :=
 Claim7.holds_tied_plain_at .later [] _ _ _ _ saidUpto (fun _ h=>by cases h) wfText (fun _ h=>by cases h) fnExactCompileGraphUpto_row_tie rfl ⟨rfl,rfl⟩ g_main rfl plain goes
end Go.Proofs.YtbljmfcifljkaaaGreatDoor.cardCg
