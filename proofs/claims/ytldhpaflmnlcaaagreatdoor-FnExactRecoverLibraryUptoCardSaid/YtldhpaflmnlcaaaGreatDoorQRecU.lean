/-
  The reference's RecoverLibrary. Own work.
-/
import Derived.Test.YtldhpaflmnlcaaaGreatDoorQRS
import Derived.Test.YtldhpaflmnlcaaaGreatDoorQRI
set_option linter.all false
set_option maxRecDepth 100000
set_option maxHeartbeats 8000000
namespace Go.Proofs.YtldhpaflmnlcaaaGreatDoor
open Go.RowKit
theorem specRecover_any (s:ByteArray) (w:World) (hs:s.size≤4194304) :
  Calls Tryz.prog 57 #[.string s] w (RecR (recR s).1.1 (recR s).1.2.1 (recR s).1.2.2 (recR s).2 w):=by
 by_cases h6:s.size≤60000
 ·have hrc:=fun (w1:World)=>joRecover_any s w1 h6
  have e:recR s=(recL s,true):=by unfold recR;rw [if_pos h6]
  rw [e]
  obtain ⟨R,hR⟩:∃ R,recL s=R:=⟨_,rfl⟩
  rw [hR] at hrc ⊢
  obtain ⟨L,n,k⟩:=R
  have g6:¬ (60000:Int)<s.size:=by omega
  have HC:=Lib.hid hrc
  clear hR e hrc
  go_enter Tryz.func57,Tryz.ntmps57
  go_wp2_with (go_at_call 96;refine (HC.out _).mono ?_;rintro e w2 ⟨v2,rfl,ho2,hb2⟩;simp only at ho2 ⊢)
  obtain ⟨a2,c2,rfl,_,_⟩:=id ho2.at
  go_wp2_with fail
  go_region
  go_wp2
  refine bodyPost_ret (v:=.tuple #[.slice a2 L.length c2,.int .i64 (n:Int),.int .i64 (k:Int),.bool true]) (by simp [results,Tryz.results57,go_sem]) rfl ?_
  refine ⟨_,rfl,?_,?_⟩
  ·first|exact ho2.keep (alloc_below _ _)|exact ho2.keep ((alloc_below _ _).drew)
  ·first|exact hb2.alloc hb2.size _|exact (hb2.alloc hb2.size _).drew
 ·have e:recR s=(([],0,0),false):=by unfold recR;rw [if_neg h6]
  rw [e]
  have g6:(60000:Int)<s.size:=by omega
  clear e h6
  go_enter Tryz.func57,Tryz.ntmps57
  go_wp2
  refine bodyPost_ret (v:=.tuple #[.slice none 0 0,.int .i64 0,.int .i64 0,.bool false]) (by simp [results,Tryz.results57,go_sem]) rfl ?_
  exact ⟨_,rfl,dfsOwn_none _ _,Below.refl _ _⟩
end Go.Proofs.YtldhpaflmnlcaaaGreatDoor
