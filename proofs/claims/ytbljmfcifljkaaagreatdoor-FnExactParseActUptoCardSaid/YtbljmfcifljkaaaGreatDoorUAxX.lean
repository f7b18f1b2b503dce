/-
  The reference's AxiomsOf, its rules given. Own work.
-/
import Derived.Test.YtbljmfcifljkaaaGreatDoorUAF
import Derived.Test.YtbljmfcifljkaaaGreatDoorUSB
import Derived.Test.YtbljmfcifljkaaaGreatDoorUMS
set_option linter.all false
set_option maxRecDepth 100000
set_option maxHeartbeats 8000000
namespace Go.Proofs.YtbljmfcifljkaaaGreatDoor
open Go.RowKit
set_option maxRecDepth 100000
set_option maxHeartbeats 4000000
theorem axL_small {p k l:Int} (hp:2≤p∧p≤97) (hk:0≤k∧k<p) (hl:0≤l∧l<p):(axL p k l).length≤46∧∀ x ∈ axL p k l,x.left.length≤13∧x.right.length≤13:=by
 have hm1:=Int.emod_nonneg (k * l) (show p ≠ 0 by omega)
 have hm2:=Int.emod_lt_of_pos (k * l) (show 0<p by omega)
 have hs1:=Int.emod_nonneg (k+l) (show p ≠ 0 by omega)
 have hs2:=Int.emod_lt_of_pos (k+l) (show 0<p by omega)
 have hnum:AxNum k l ((k * l) % p) ((k+l) % p) (p - 1):=⟨by omega,by omega,by omega,by omega,by omega⟩
 have hA:(axN p k l).length=27:=rfl
 have hT:∀ T ∈ axN p k l,(T.2.1.nodes.length≤13∧T.2.2.nodes.length≤13)∧T.2.1.mir.nodes.length≤13∧T.2.2.mir.nodes.length≤13:=fun T hT=>by
  obtain ⟨j,hj,rfl⟩:=List.mem_iff_getElem.1 hT
  obtain ⟨h1,h2,h3,h4⟩:=hnum.tr j hj
  exact ⟨⟨h1.len,h2.len⟩,h3.len,h4.len⟩
 have r1:∀ T ∈ axN p k l,(rulOf T).left.length≤13∧(rulOf T).right.length≤13:=fun T h=>(hT T h).1
 have r2:∀ T ∈ axN p k l,(mirOf T).left.length≤13∧(mirOf T).right.length≤13:=fun T h=>(hT T h).2
 refine ⟨?_,fun x hx=>?_⟩
 ·unfold axL
  split <;> simp [hA]
 ·unfold axL at hx
  have tk:∀ n,∀ T ∈ (axN p k l).take n,T ∈ axN p k l:=fun n T h=>List.mem_of_mem_take h
  have dr:∀ n,∀ T ∈ (axN p k l).drop n,T ∈ axN p k l:=fun n T h=>List.mem_of_mem_drop h
  have td:∀ n m,∀ T ∈ ((axN p k l).drop n).take m,T ∈ axN p k l:=fun n m T h=>dr _ _ (List.mem_of_mem_take h)
  simp only [List.mem_append,List.mem_map] at hx
  rcases hx with (((⟨T,h,rfl⟩|⟨T,h,rfl⟩)|⟨T,h,rfl⟩)|⟨T,h,rfl⟩)|h
  ·exact r1 T (tk _ T h)
  ·exact r2 T (tk _ T h)
  ·exact r1 T (td _ _ T h)
  ·exact r2 T (td _ _ T h)
  ·split at h
   ·cases h
   ·obtain ⟨T,h',rfl⟩:=List.mem_map.1 h
    exact r1 T (dr _ T h')
end Go.Proofs.YtbljmfcifljkaaaGreatDoor
