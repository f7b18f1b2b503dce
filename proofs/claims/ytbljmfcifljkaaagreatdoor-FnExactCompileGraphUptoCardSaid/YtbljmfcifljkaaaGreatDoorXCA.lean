/-
  Valid graphs, the program's tests. Own work.
-/
import Derived.Test.YtbljmfcifljkaaaGreatDoorXAB
import Derived.Test.YtbljmfcifljkaaaGreatDoorXAC
set_option linter.all false
set_option maxRecDepth 100000
set_option maxHeartbeats 8000000
namespace Go.Proofs.YtbljmfcifljkaaaGreatDoor
open Go.RowKit
set_option maxRecDepth 100000
set_option maxHeartbeats 4000000
theorem isEdge_any (e:EdI) (vi vo:Value) (w:World) (hi:IntsAt w vi e.ins) (ho:IntsAt w vo e.outs) :
  Calls Tryz.prog 254 #[.agg #[.int .i64 e.kind,.int .i64 e.value,vi,vo]] w (FlP (edB e) w):=by
 obtain ⟨a1,q1,rfl⟩:=hi.slice
 obtain ⟨a2,q2,rfl⟩:=ho.slice
 have hA:=alloc_below w (.cells #[.int .i64 e.kind,.int .i64 e.value,.slice a1 e.ins.length q1,.slice a2 e.outs.length q2] 189)
 cases hk:inB e.kind 3 14 with
 | false =>
  have HK:=Lib.hid hk
  clear hk
  go_enter Tryz.func254,Tryz.ntmps254
  go_wp2_with (go_at_call 242;refine (isGenerator_any _ _).mono ?_;rintro r w2 ⟨rfl,rfl⟩;rw [HK.out])
  go_ret
  exact ⟨by unfold edB;rw [HK.out];rfl,hA⟩
 | true =>
  cases hv:genValB e.kind e.value with
  | false =>
   have HK:=Lib.hid (And.intro hk hv)
   clear hk hv
   go_enter Tryz.func254,Tryz.ntmps254
   go_wp2_with (first|(go_at_call 242;refine (isGenerator_any _ _).mono ?_;rintro r w2 ⟨rfl,rfl⟩;rw [HK.out.1])|(go_at_call 244;refine (isGeneratorValue_any _ _ _).mono ?_;rintro r w2 ⟨rfl,rfl⟩;rw [HK.out.2]))
   go_ret
   exact ⟨by unfold edB;rw [HK.out.1,HK.out.2];rfl,hA⟩
  | true =>
   have hk2:3≤e.kind∧e.kind≤14:=by simpa [inB] using hk
   have hcs:∃ b:Bool,decide (kindW e.kind=((e.ins.length:Int),(e.outs.length:Int)))=b:=⟨_,rfl⟩
   obtain ⟨b,hb⟩:=hcs
   have hif:(if (kindW e.kind).1=(e.ins.length:Int) then (if (kindW e.kind).2=(e.outs.length:Int) then true else false) else false)=b:=by
    rw [← hb]
    by_cases h1:(kindW e.kind).1=(e.ins.length:Int)
    ·by_cases h2:(kindW e.kind).2=(e.outs.length:Int)
     ·rw [if_pos h1,if_pos h2];symm;simp [Prod.ext_iff,h1,h2]
     ·rw [if_pos h1,if_neg h2];symm;simp [Prod.ext_iff,h2]
    ·rw [if_neg h1];symm;simp [Prod.ext_iff,h1]
   have HK:=Lib.hid (And.intro hk (And.intro hv hb))
   have HK2:=Lib.hid hk2
   clear hk hv hk2 hb
   by_cases h1:(kindW e.kind).1=(e.ins.length:Int)
   all_goals by_cases h2:(kindW e.kind).2=(e.outs.length:Int)
   all_goals
    simp only [h1,h2,if_true,if_false] at hif
    have HIF:=Lib.hid hif
    clear hif
    go_enter Tryz.func254,Tryz.ntmps254
    go_wp2_with (first|(go_at_call 242;refine (isGenerator_any _ _).mono ?_;rintro r w2 ⟨rfl,rfl⟩;rw [HK.out.1])|(go_at_call 244;refine (isGeneratorValue_any _ _ _).mono ?_;rintro r w2 ⟨rfl,rfl⟩;rw [HK.out.2.1]))
    have kE:=Bk.new w 189 #[.int .i64 e.kind,.int .i64 e.value,.slice a1 e.ins.length q1,.slice a2 e.outs.length q2]
    generalize (w.alloc (.cells #[.int .i64 e.kind,.int .i64 e.value,.slice a1 e.ins.length q1,.slice a2 e.outs.length q2] 189))=u0 at *
    obtain ⟨iE,fE,zE⟩:=kE.cell
    have c0:=iE 0
    have c2:=iE 2
    have c3:=iE 3
    simp at c0 c2 c3
    clear iE fE
    refine region_acts (C:=Exc (NoT) _) 4 [0,1,2,3,4,5,6,7,8,9,10,11] (by kernel_rfl) (by kernel_rfl) (Exc.grows _ _) (Exc.refl _ _) ?_
    iterate 2 (apply x_st rfl rfl rfl;(focus intro u hc' hf';go_simp <;> rfl);intro K hK;go_simp;apply hK;clear hK K)
    refine x_call rfl rfl rfl (Exc.grows _ _) (Exc.refl _ _) 243 (fun K hK=>?_);apply Exists.intro;refine ⟨fun w' hw'=>?_,fun wa hwa hbwa=>?_⟩;(focus go_simp;rfl);refine (generatorWires_any _ _ HK2.out.1 HK2.out.2).mono ?_;rintro e w3 ⟨rfl,hb3⟩;refine ⟨_,rfl,hb3,fun hx=>?_⟩;go_simp;apply hK;clear hK K
    iterate 9 (apply x_st rfl rfl rfl;(focus intro u hc' hf';go_simp <;> rfl);intro K hK;go_simp;apply hK;clear hK K)
    refine x_nil ?_
    go_wp2
    go_ret
    exact ⟨by unfold edB;rw [HK.out.1,HK.out.2.1,HK.out.2.2,← HIF.out];rfl,hA.drew.trans (hx.toBelow.mono (by simp;omega))⟩
end Go.Proofs.YtbljmfcifljkaaaGreatDoor
