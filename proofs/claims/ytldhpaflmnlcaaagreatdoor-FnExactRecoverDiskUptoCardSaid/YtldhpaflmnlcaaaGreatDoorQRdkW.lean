/-
  RecoverDisk, the program's and the reference's. Own work.
-/
import Derived.Test.YtldhpaflmnlcaaaGreatDoorQDsk
set_option linter.all false
set_option maxRecDepth 100000
set_option maxHeartbeats 8000000
namespace Go.Proofs.YtldhpaflmnlcaaaGreatDoor
open Go.RowKit
def rdkR (s t:ByteArray):ByteArray × List Df × Bool:=if s.size+t.size≤60000 then ((s ++ t).extract 0 (recL (s ++ t)).2.2,(recL (s ++ t)).1,true) else (⟨#[]⟩,[],false)
theorem rdkR_good (s t:ByteArray):good (rdkR s t).2.1=true:=by
 unfold rdkR
 split
 ·exact (recL_parts (s ++ t)).1
 ·decide
def RdkP (R:ByteArray × List Df × Bool) (w:World) (e:Ending) (w':World):Prop :=
 ∃ v',e=.returned (.tuple #[.agg #[.string R.1,.string ⟨#[]⟩],v',.bool R.2.2])∧DfsOwn w' w.heap.size v' R.2.1∧Below w.heap.size w w'
theorem box22 {w W:World} {a b c d:Value} {t u:TypeId} (hB:Below (w.heap.size+1+1) ((w.alloc (.cells #[a,b] t)).alloc (.cells #[c,d] u)) W) :
  (W.cell? ⟨w.heap.size,0,none⟩=some a∧W.cell? ⟨w.heap.size,1,none⟩=some b∧∀ j,W.frozen? ⟨w.heap.size,j,none⟩=false)∧(W.cell? ⟨w.heap.size+1,0,none⟩=some c∧W.cell? ⟨w.heap.size+1,1,none⟩=some d∧∀ j,W.frozen? ⟨w.heap.size+1,j,none⟩=false) ∧
   w.heap.size<W.heap.size∧w.heap.size+1<W.heap.size∧Below w.heap.size w W:=by
 have hz:=hB.size
 simp only [World.size_alloc] at hz
 refine ⟨⟨?_,?_,fun j=>?_⟩,⟨?_,?_,fun j=>?_⟩,by omega,by omega,((alloc_below _ _).alloc (by simp) _).trans (hB.mono (by omega))⟩
 ·rw [hB.cell (p:=⟨w.heap.size,0,none⟩) (by simp;omega)];go_simp
 ·rw [hB.cell (p:=⟨w.heap.size,1,none⟩) (by simp;omega)];go_simp
 ·rw [hB.frozen (p:=⟨w.heap.size,j,none⟩) (by simp;omega)];go_simp
 ·rw [hB.cell (p:=⟨w.heap.size+1,0,none⟩) (by simp)];go_simp
 ·rw [hB.cell (p:=⟨w.heap.size+1,1,none⟩) (by simp)];go_simp
 ·rw [hB.frozen (p:=⟨w.heap.size+1,j,none⟩) (by simp)];go_simp
theorem implRdk_any (s t:ByteArray) (w:World) (ht:CutTab w) (hp:PowTab w) (hs:s.size≤1048576) (hs2:t.size≤1048576) :
  Calls Tryz.prog 60 #[.agg #[.string s,.string t]] w (RdkP (rdkR s t) w):=by
 by_cases h6:s.size+t.size≤60000
 ·have hz:=bsize s t
  have hrc:=fun (w1:World) (h1:CutTab w1) (h2:PowTab w1)=>recovered_any (s ++ t) w1 h1 h2 (by omega)
  have e:rdkR s t=((s ++ t).extract 0 (recL (s ++ t)).2.2,(recL (s ++ t)).1,true):=by unfold rdkR;rw [if_pos h6]
  have hk:=(recL_parts (s ++ t)).2.2
  rw [e]
  obtain ⟨R,hR⟩:∃ R,recL (s ++ t)=R:=⟨_,rfl⟩
  rw [hR] at hrc hk ⊢
  obtain ⟨L,n,k⟩:=R
  simp only at hk ⊢
  have hD:=fun (w1:World)=>(dsk_disk (w:=w1) (show decide (s.size+t.size≤60000)=true by simpa using h6) (by omega) (by omega)).1
  have HC:=Lib.hid hrc
  have hlim:¬ 9223372036854775807<s.size+t.size:=by omega
  have hk1:(k:Int)≤(s.size:Int)+(t.size:Int):=by omega
  clear hR e hrc h6
  go_enter Tryz.func60,Tryz.ntmps60
  go_wp2_with fail
  refine (hD _).mono ?_
  rintro r w1 ⟨rfl,hb1⟩
  obtain ⟨⟨c0,c1,cf⟩,⟨d0,d1,df⟩,hz1,hz2,hb1'⟩:=box22 (hb1.mono (by simp))
  go_wp2_with fail
  refine (HC.out _ (ht.keep hb1') (hp.keep hb1')).mono ?_
  rintro e w2 ⟨v2,rfl,ho2,hb2⟩
  simp only at ho2 ⊢
  obtain ⟨a2,c2,rfl,_,_⟩:=id ho2.at
  have hB2:=hb1'.trans (hb2.mono hb1'.size)
  have hz3:=hb2.size
  have D0:=cell_keep hb2 d0
  have D1:=cell_keep hb2 d1
  have DF:=fun j=>(hb2.frozen (p:=⟨w.heap.size+1,j,none⟩) hz2).trans (df j)
  have hz4:w.heap.size+1<w2.heap.size:=by omega
  have HZ:=Lib.hid hz2
  obtain ⟨be,hbe⟩:∃ be,be=w.heap.size+1:=⟨_,rfl⟩
  rw [← hbe] at D0 D1 DF hz4 HZ ⊢
  have HBE:=Lib.hid hbe
  clear c0 c1 cf d0 d1 df hbe hz2 hz3
  go_wp2_with fail
  go_region
  go_wp2
  refine bodyPost_ret (v:=.tuple #[.agg #[.string ((s ++ t).extract 0 k),.string ⟨#[]⟩],.slice a2 L.length c2,.bool true]) (by simp [results,Tryz.results60,go_sem,D0,D1,DF,hz4]) rfl ?_
  refine ⟨_,rfl,?_,?_⟩
  ·exact (((dfs_low (dfs_low ho2 HZ.out) HZ.out).keep (alloc_below _ _)).keep (Below.refl _ _).drew).mono hb1'.size
  ·have hlow:w.heap.size≤be:=by have:=HBE.out;omega
   exact (((hB2.setCell hlow _).setCell hlow _).alloc (by simpa using hB2.size) _).drew
 ·have e:rdkR s t=(⟨#[]⟩,[],false):=by unfold rdkR;rw [if_neg h6]
  rw [e]
  have hD:=fun (w1:World)=>(dsk_disk (w:=w1) (show decide (s.size+t.size≤60000)=false by simpa using h6) (by omega) (by omega)).1
  clear e h6
  go_enter Tryz.func60,Tryz.ntmps60
  go_wp2_with fail
  refine (hD _).mono ?_
  rintro r w1 ⟨rfl,hb1⟩
  obtain ⟨⟨c0,c1,cf⟩,⟨d0,d1,df⟩,hz1,hz2,hb1'⟩:=box22 (hb1.mono (by simp))
  go_wp2
  refine bodyPost_ret (v:=.tuple #[.agg #[.string ⟨#[]⟩,.string ⟨#[]⟩],.slice none 0 0,.bool false]) (by simp [results,Tryz.results60,go_sem,d0,d1,df,hz2]) rfl ?_
  refine ⟨_,rfl,dfsOwn_none _ _,?_⟩
  exact (hb1'.setCell (by simp) _).setCell (by simp) _
theorem specRdk_any (s t:ByteArray) (w:World) (hs:s.size≤1048576) (hs2:t.size≤1048576) :
  Calls Tryz.prog 59 #[.agg #[.string s,.string t]] w (RdkP (rdkR s t) w):=by
 by_cases h6:s.size+t.size≤60000
 ·have hz:=bsize s t
  have hrc:=fun (w1:World)=>joRecover_any (s ++ t) w1 (by omega)
  have e:rdkR s t=((s ++ t).extract 0 (recL (s ++ t)).2.2,(recL (s ++ t)).1,true):=by unfold rdkR;rw [if_pos h6]
  have hk:=(recL_parts (s ++ t)).2.2
  rw [e]
  obtain ⟨R,hR⟩:∃ R,recL (s ++ t)=R:=⟨_,rfl⟩
  rw [hR] at hrc hk ⊢
  obtain ⟨L,n,k⟩:=R
  simp only at hk ⊢
  have hD:=fun (w1:World)=>(dsk_disk (w:=w1) (show decide (s.size+t.size≤60000)=true by simpa using h6) (by omega) (by omega)).2
  have HC:=Lib.hid hrc
  have hlim:¬ 9223372036854775807<s.size+t.size:=by omega
  have hk1:(k:Int)≤(s.size:Int)+(t.size:Int):=by omega
  clear hR e hrc h6
  go_enter Tryz.func59,Tryz.ntmps59
  go_wp2_with fail
  refine (hD _).mono ?_
  rintro r w1 ⟨rfl,hb1⟩
  obtain ⟨⟨c0,c1,cf⟩,⟨d0,d1,df⟩,hz1,hz2,hb1'⟩:=box22 (hb1.mono (by simp))
  go_wp2_with fail
  refine (HC.out _).mono ?_
  rintro e w2 ⟨v2,rfl,ho2,hb2⟩
  simp only at ho2 ⊢
  obtain ⟨a2,c2,rfl,_,_⟩:=id ho2.at
  have hB2:=hb1'.trans (hb2.mono hb1'.size)
  have hz3:=hb2.size
  have D0:=cell_keep hb2 d0
  have D1:=cell_keep hb2 d1
  have DF:=fun j=>(hb2.frozen (p:=⟨w.heap.size+1,j,none⟩) hz2).trans (df j)
  have hz4:w.heap.size+1<w2.heap.size:=by omega
  have HZ:=Lib.hid hz2
  obtain ⟨be,hbe⟩:∃ be,be=w.heap.size+1:=⟨_,rfl⟩
  rw [← hbe] at D0 D1 DF hz4 HZ ⊢
  have HBE:=Lib.hid hbe
  clear c0 c1 cf d0 d1 df hbe hz2 hz3
  go_wp2_with fail
  go_region
  go_wp2
  refine bodyPost_ret (v:=.tuple #[.agg #[.string ((s ++ t).extract 0 k),.string ⟨#[]⟩],.slice a2 L.length c2,.bool true]) (by simp [results,Tryz.results59,go_sem,D0,D1,DF,hz4]) rfl ?_
  refine ⟨_,rfl,?_,?_⟩
  ·exact (((dfs_low (dfs_low ho2 HZ.out) HZ.out).keep (alloc_below _ _)).keep (Below.refl _ _).drew).mono hb1'.size
  ·have hlow:w.heap.size≤be:=by have:=HBE.out;omega
   exact (((hB2.setCell hlow _).setCell hlow _).alloc (by simpa using hB2.size) _).drew
 ·have e:rdkR s t=(⟨#[]⟩,[],false):=by unfold rdkR;rw [if_neg h6]
  rw [e]
  have hD:=fun (w1:World)=>(dsk_disk (w:=w1) (show decide (s.size+t.size≤60000)=false by simpa using h6) (by omega) (by omega)).2
  clear e h6
  go_enter Tryz.func59,Tryz.ntmps59
  go_wp2_with fail
  refine (hD _).mono ?_
  rintro r w1 ⟨rfl,hb1⟩
  obtain ⟨⟨c0,c1,cf⟩,⟨d0,d1,df⟩,hz1,hz2,hb1'⟩:=box22 (hb1.mono (by simp))
  go_wp2
  refine bodyPost_ret (v:=.tuple #[.agg #[.string ⟨#[]⟩,.string ⟨#[]⟩],.slice none 0 0,.bool false]) (by simp [results,Tryz.results59,go_sem,d0,d1,df,hz2]) rfl ?_
  refine ⟨_,rfl,dfsOwn_none _ _,?_⟩
  exact (hb1'.setCell (by simp) _).setCell (by simp) _
end Go.Proofs.YtldhpaflmnlcaaaGreatDoor
