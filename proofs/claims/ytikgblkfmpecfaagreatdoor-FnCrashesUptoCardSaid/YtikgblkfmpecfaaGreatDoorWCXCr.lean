/-
  FnCrashes, the second form's card: for all arguments of bulk at most 1048576 the law answers true and leaves its arguments as they were. Conditions: none beyond the row's own.
  Own work, in the frame of the seat's UptoLaidToy.lean; by a program of my own (card.py).
-/
import Derived.Test.YtikgblkfmpecfaaGreatDoorWCK
import Derived.Test.YtikgblkfmpecfaaGreatDoorWCFCr
set_option linter.all false
set_option maxRecDepth 100000
set_option maxHeartbeats 8000000
namespace Go.Proofs.YtikgblkfmpecfaaGreatDoor.cardCr
open Go.ChangeShapes Go.WideShapes Go.ChangeAt Go.RowKit
theorem joined:joinedFacts Tryz.prog 5 Tryz.f5 (Rows.OpenSpec.upto Rows.fnCrashesSpec).bare Rows.fnCrashesUptoRow=true:=by
 unfold joinedFacts;simp only[Bool.and_eq_true];refine⟨?_,j31⟩;refine⟨?_,j30⟩;refine⟨?_,j29⟩;refine⟨?_,j28⟩;refine⟨?_,j27⟩;refine⟨?_,j26⟩;refine⟨?_,VJ⟩;refine⟨?_,VK⟩;refine⟨?_,j23⟩;refine⟨?_,j22⟩;refine⟨?_,j21⟩;refine⟨?_,j20⟩;refine⟨?_,j19⟩;refine⟨?_,j18⟩;refine⟨?_,j17⟩;refine⟨?_,j16⟩;refine⟨?_,j15⟩;refine⟨?_,j14⟩;refine⟨?_,j13⟩;refine⟨?_,j12⟩;refine⟨?_,j11⟩;refine⟨?_,j10⟩;refine⟨?_,j9⟩;refine⟨?_,VL⟩;refine⟨?_,j7⟩;refine⟨?_,VN⟩;refine⟨?_,j5⟩;refine⟨?_,j4⟩;refine⟨?_,j3⟩;refine⟨?_,VO⟩;exact⟨j0,VP⟩
def lq:Array Value:=#[.slice none 0 0,.slice none 0 0]
theorem reads (os:Os) {H:Type} (enc:TypeId×Value->H):DataW.whole enc Tryz.prog ((laidWorld os).forCall (λ_ _=>0) ⟨#[],lq,[]⟩).memory Tryz.f5.params.toList Rows.fnCrashesSpec.vars false lq.toList 8 =
  some ([.nil,.nil],[],[]):=by kernel_rfl
theorem w1 (os:Os):((laidWorld os).forCall (λ_ _=>0) ⟨#[],lq,[]⟩).variablesRefB Tryz.prog=true:=by kernel_rfl
theorem w2 (os:Os):(((laidWorld os).forCall (λ_ _=>0) ⟨#[],lq,[]⟩).heap.toList.drop Tryz.prog.globals.size).take ((begin Tryz.prog (λ_ _=>0) default).world.heap.size-Tryz.prog.globals.size) =
   (begin Tryz.prog (λ_ _=>0) default).world.heap.toList.drop Tryz.prog.globals.size:=by kernel_rfl
theorem w3 (os:Os):Input.okWideB Tryz.prog ((laidWorld os).forCall (λ_ _=>0) ⟨#[],lq,[]⟩) 5 ⟨#[],lq,[]⟩=true:=by kernel_rfl
theorem w4 {H:Type}:Rows.uptoSmall H ([.nil,.nil]++[])=true:=by kernel_rfl
theorem w6 (os:Os) {H:Type} (enc:TypeId×Value->H):(Rows.OpenSpec.upto Rows.fnCrashesSpec).bare.sizedB enc Tryz.prog Tryz.f5 false ((laidWorld os).forCall (λ_ _=>0) ⟨#[],lq,[]⟩).memory lq 8=true:=by kernel_rfl
theorem liftedUpto (os:Os) (started:os.Started) (H:Type) (enc:TypeId×Value->H) (F:Stop.Interp) :
  ReturnsInHanded {} Tryz.checked os 5 .any ((Rows.OpenSpec.upto Rows.fnCrashesSpec).preRow enc Tryz.prog Tryz.f5 Rows.fnCrashesUptoRow.domain false Rows.fnCrashesUptoRow.laid) (((Rows.OpenSpec.upto Rows.fnCrashesSpec).at F).post enc Tryz.prog Tryz.f5 false true false false):=by
 refine returnsInHanded_of_row (C:=Tryz.checked) (s:=Rows.OpenSpec.upto Rows.fnCrashesSpec) own started noInit Tryz.func5
  (witness_row_atRef (enc:=enc) (C:=Tryz.checked) false (laidWorld os) lq rfl (w1 os) (w2 os) (w3 os)
   (OpenSpec.preRow_of_cond 8 (reads os enc) (by kernel_rfl) (λk hk=>by cases hk;exact w4) (w6 os enc) (laid_met os _))) ?_
 intro W base args ds gs before hval hW _ hcond _ hL hsh _;exact contract H enc W base args ds gs before hval hW (hcond _ rfl) hL hsh
theorem saidUpto:Rows.FnCrashesUptoSaid :=
 OpenClaim.holds_of_cond 5 Tryz.f5 rfl rfl rfl rfl rfl rfl rfl ⟨rfl,rfl,rfl,rfl,rfl⟩ rfl rfl rfl rfl rfl p1 Tryz.func5 joined inst wrap
  (λos started H enc _ F=>by rw[OpenClaim.pre_eq_preRow];exact liftedUpto os started H enc F)
theorem plain (f:FuncId) (fn:Func) (hf:Tryz.pinned.checked.prog.funcNamed "loop.example/g01073/laws.FnCrashes"=some f) (hfn:Tryz.pinned.checked.prog.funcs[f]?=some fn) :
  true=Tryz.pinned.checked.prog.looks []/\∀(j:Nat) t,fn.params[j]?=some t->Tryz.pinned.checked.prog.wantsStandIn t=false:=by
 rw[VQ]at hf hfn ⊢;obtain rfl:f=5:=(Option.some.inj (p1.symm.trans hf)).symm;obtain rfl:fn=Tryz.f5:=(Option.some.inj (Tryz.func5.symm.trans hfn)).symm;refine⟨VR,λj t ht=>?_⟩;rw[Tryz.params5]at ht;have hm:t∈#[22,22]:=Array.mem_of_getElem? ht;have h2:t=22:=by simpa using hm
 subst h2;exact q0
theorem cardUpto:Rows.FnCrashesUptoCardSaid :=
 Claim7.holds_tied_plain_at .later [] _ _ _ _ saidUpto (λ_ h=>by cases h) Ot (λ_ h=>by cases h) fnCrashesUpto_row_tie rfl ⟨rfl,rfl⟩ VT rfl plain goes
end Go.Proofs.YtikgblkfmpecfaaGreatDoor.cardCr
