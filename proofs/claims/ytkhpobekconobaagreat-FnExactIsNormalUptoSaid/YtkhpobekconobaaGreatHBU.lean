/-
  FnExactIsNormal, the second form: for all arguments of bulk at most 1048576 the law answers true and leaves its arguments as they were. Conditions: none beyond the row's own.
  Own work, in the frame of the seat's UptoLaidToy.lean; by a program of my own (card.py).
-/
import Derived.Test.YtkhpobekconobaaGreatHBS
import Derived.Test.YtkhpobekconobaaGreatHBT
set_option linter.all false
set_option maxRecDepth 100000
set_option maxHeartbeats 0
namespace Go.Proofs.YtkhpobekconobaaGreat.cardNo
open Go.ChangeShapes Go.WideShapes Go.ChangeAt Go.RowKit
theorem joined:joinedFacts Tryz.prog 3 Tryz.f3 (Rows.OpenSpec.upto Rows.fnExactIsNormalSpec).bare Rows.fnExactIsNormalUptoRow=true:=by
 unfold joinedFacts;simp only[Zu];refine⟨?_,j31⟩;refine⟨?_,j30⟩;refine⟨?_,j29⟩;refine⟨?_,j28⟩;refine⟨?_,j27⟩;refine⟨?_,j26⟩;refine⟨?_,avp⟩;refine⟨?_,avo⟩;refine⟨?_,j23⟩;refine⟨?_,j22⟩;refine⟨?_,j21⟩;refine⟨?_,j20⟩;refine⟨?_,j19⟩;refine⟨?_,j18⟩;refine⟨?_,j17⟩;refine⟨?_,j16⟩;refine⟨?_,j15⟩;refine⟨?_,j14⟩;refine⟨?_,j13⟩;refine⟨?_,j12⟩;refine⟨?_,j11⟩;refine⟨?_,j10⟩;refine⟨?_,j9⟩;refine⟨?_,avn⟩;refine⟨?_,j7⟩;refine⟨?_,avm⟩;refine⟨?_,j5⟩;refine⟨?_,j4⟩;refine⟨?_,j3⟩;refine⟨?_,avl⟩;exact⟨j0,avk⟩
def avq:Array Value:=#[.agg #[.int .i64 0,.slice none 0 0,.slice none 0 0,.slice none 0 0],.slice none 0 0]
theorem liftedUpto (os:Os) (started:os.Started) (H:Type) (enc:TypeId×Value->H) (F:Stop.Interp) :
  ReturnsInHanded {} Tryz.checked os 3 .any ((Rows.OpenSpec.upto Rows.fnExactIsNormalSpec).pre6 enc Tryz.prog Tryz.f3 Rows.fnExactIsNormalUptoRow.domain false) (((Rows.OpenSpec.upto Rows.fnExactIsNormalSpec).at F).post enc Tryz.prog Tryz.f3 false true false false):=by
 refine returnsInHanded_of_cond (C:=Tryz.checked) (s:=Rows.OpenSpec.upto Rows.fnExactIsNormalSpec) (k:=Rows.uptoSmall) rfl own started noInit Tryz.func3
  (OpenSpec.witness (enc:=enc) (C:=Tryz.checked) (s:=Rows.OpenSpec.upto Rows.fnExactIsNormalSpec) (k:=Rows.uptoSmall) rfl false ⟨#[],avq,[]⟩ 8 (by kernel_rfl) (by kernel_rfl) (by kernel_rfl)
   (x:=([.agg [.lit (.int .i64 0),.nil,.nil,.nil],.nil],[],[])) (by kernel_rfl) rfl (by kernel_rfl)) ?_
 intro W base args ds gs before hval hW _ hk _;exact contract H enc W base args ds gs before hval hW hk
theorem saidUpto:Rows.FnExactIsNormalUptoSaid :=
 OpenClaim.holds_of_cond 3 Tryz.f3 rfl rfl rfl rfl rfl rfl rfl ⟨rfl,rfl,rfl,rfl,rfl⟩ rfl rfl rfl rfl rfl p1 Tryz.func3 joined inst wrap
  (λos started H enc _ F=>liftedUpto os started H enc F)
end Go.Proofs.YtkhpobekconobaaGreat.cardNo
