/-
  CountAcknowledged, the program's and the reference's, and its law, walked. Own work.
-/
import Derived.Test.YtldhpaflmnlcaaaGreatDoorQDsk
set_option linter.all false
set_option maxRecDepth 100000
set_option maxHeartbeats 8000000
namespace Go.Proofs.YtldhpaflmnlcaaaGreatDoor
open Go.RowKit
def cntR (s t:ByteArray):Nat × Bool:=if s.size+t.size≤60000 then ((recL s).2.1,true) else (0,false)
def CntR (R:Nat × Bool) (w:World) (e:Ending) (w':World):Prop:=e=.returned (.tuple #[.int .i64 (R.1:Int),.bool R.2])∧Below w.heap.size w w'
theorem implCount_any (s t:ByteArray) (w:World) (ht:CutTab w) (hp:PowTab w) (hs:s.size≤1048576) (hs2:t.size≤1048576) :
  Calls Tryz.prog 54 #[.agg #[.string s,.string t]] w (CntR (cntR s t) w):=by
 by_cases h6:s.size+t.size≤60000
 ·have hrc:=fun (w1:World) (h1:CutTab w1) (h2:PowTab w1)=>recovered_any s w1 h1 h2 (by omega)
  have e:cntR s t=((recL s).2.1,true):=by unfold cntR;rw [if_pos h6]
  rw [e]
  obtain ⟨R,hR⟩:∃ R,recL s=R:=⟨_,rfl⟩
  rw [hR] at hrc ⊢
  obtain ⟨L,n,k⟩:=R
  have hD:=fun (w1:World)=>(dsk_disk (w:=w1) (show decide (s.size+t.size≤60000)=true by simpa using h6) (by omega) (by omega)).1
  have HC:=Lib.hid hrc
  have hfd:∀ (v:Value) (w1:World),(Instr.field 130 (.agg #[v,.int .i64 (n:Int),.int .i64 (k:Int)]) 1).run Tryz.prog w1=.ok (.int .i64 (n:Int)) w1:=fun _ _=>by kernel_rfl
  clear hR e hrc h6
  go_enter Tryz.func54,Tryz.ntmps54
  go_wp2_with (go_at_call 97;refine (hD _).mono ?_;rintro r w1 ⟨rfl,hb1⟩;obtain ⟨c0,c1,cf,hz1,hb1'⟩:=box2 (hb1.mono (by simp)))
  go_wp2_with (go_at_call 98;refine (HC.out _ (ht.keep hb1') (hp.keep hb1')).mono ?_;rintro e w2 ⟨v2,rfl,ho2,hb2⟩;simp only at ho2 ⊢;obtain ⟨a2,c2,rfl,_,_⟩:=id ho2.at)
  go_ret2
  exact ⟨rfl,hb1'.trans (hb2.mono hb1'.size)⟩
 ·have e:cntR s t=(0,false):=by unfold cntR;rw [if_neg h6]
  rw [e]
  have hD:=fun (w1:World)=>(dsk_disk (w:=w1) (show decide (s.size+t.size≤60000)=false by simpa using h6) (by omega) (by omega)).1
  clear e h6
  go_enter Tryz.func54,Tryz.ntmps54
  go_wp2_with (go_at_call 97;refine (hD _).mono ?_;rintro r w1 ⟨rfl,hb1⟩;obtain ⟨c0,c1,cf,hz1,hb1'⟩:=box2 (hb1.mono (by simp)))
  go_ret2
  exact ⟨rfl,hb1'⟩
theorem specCount_any (s t:ByteArray) (w:World) (hs:s.size≤1048576) (hs2:t.size≤1048576) :
  Calls Tryz.prog 52 #[.agg #[.string s,.string t]] w (CntR (cntR s t) w):=by
 by_cases h6:s.size+t.size≤60000
 ·have hrc:=fun (w1:World)=>joRecover_any s w1 (by omega)
  have e:cntR s t=((recL s).2.1,true):=by unfold cntR;rw [if_pos h6]
  rw [e]
  obtain ⟨R,hR⟩:∃ R,recL s=R:=⟨_,rfl⟩
  rw [hR] at hrc ⊢
  obtain ⟨L,n,k⟩:=R
  have hD:=fun (w1:World)=>(dsk_disk (w:=w1) (show decide (s.size+t.size≤60000)=true by simpa using h6) (by omega) (by omega)).2
  have HC:=Lib.hid hrc
  have hfd:∀ (v:Value) (w1:World),(Instr.field 126 (.agg #[v,.int .i64 (n:Int),.int .i64 (k:Int)]) 1).run Tryz.prog w1=.ok (.int .i64 (n:Int)) w1:=fun _ _=>by kernel_rfl
  clear hR e hrc h6
  go_enter Tryz.func52,Tryz.ntmps52
  go_wp2_with (go_at_call 95;refine (hD _).mono ?_;rintro r w1 ⟨rfl,hb1⟩;obtain ⟨c0,c1,cf,hz1,hb1'⟩:=box2 (hb1.mono (by simp)))
  go_wp2_with (go_at_call 96;refine (HC.out _).mono ?_;rintro e w2 ⟨v2,rfl,ho2,hb2⟩;simp only at ho2 ⊢;obtain ⟨a2,c2,rfl,_,_⟩:=id ho2.at)
  go_ret2
  exact ⟨rfl,hb1'.trans (hb2.mono hb1'.size)⟩
 ·have e:cntR s t=(0,false):=by unfold cntR;rw [if_neg h6]
  rw [e]
  have hD:=fun (w1:World)=>(dsk_disk (w:=w1) (show decide (s.size+t.size≤60000)=false by simpa using h6) (by omega) (by omega)).2
  clear e h6
  go_enter Tryz.func52,Tryz.ntmps52
  go_wp2_with (go_at_call 95;refine (hD _).mono ?_;rintro r w1 ⟨rfl,hb1⟩;obtain ⟨c0,c1,cf,hz1,hb1'⟩:=box2 (hb1.mono (by simp)))
  go_ret2
  exact ⟨rfl,hb1'⟩
theorem lawCa_any (s t:ByteArray) (w:World) (ht:CutTab w) (hp:PowTab w) (hs:s.size≤1048576) (hs2:t.size≤1048576) :
  Calls Tryz.prog 11 #[.agg #[.string s,.string t]] w fun r w'=>r=.returned (.bool true)∧Below w.heap.size w w':=by
 have hspec:=fun (w2:World)=>specCount_any s t w2 hs hs2
 have himpl:=fun (w2:World) (h2:CutTab w2) (h3:PowTab w2)=>implCount_any s t w2 h2 h3 hs hs2
 obtain ⟨R,hR⟩:∃ R,cntR s t=R:=⟨_,rfl⟩
 rw [hR] at hspec himpl
 obtain ⟨n,ok⟩:=R
 have HS:=Lib.hid hspec
 have HI:=Lib.hid himpl
 have hbne:=bne_selfD ok
 have hbn:((n:Int) != n)=false:=by simp
 clear hspec himpl hR
 go_enter Tryz.func11,Tryz.ntmps11
 go_wp2_with fail
 refine (szDisk_any s t _ _ hs hs2 (by omega) (by omega)).mono ?_
 rintro r w1 ⟨n1,rfl,hn1,hn1',hb1⟩
 obtain ⟨x0,x1,xf,z1,hB1⟩:=box2 (hb1.mono (by simp))
 by_cases hneg:n1<0
 ·go_wp2
  go_ret
  exact ⟨rfl,hB1⟩
 have hnn:¬ n1<0:=hneg
 go_wp2_with fail
 refine (toDisk_any s t _).mono ?_
 rintro r w2 ⟨rfl,hb2⟩
 go_wp2_with fail
 refine (HS.out _).mono ?_
 rintro r w3 ⟨rfl,hb3⟩
 have hB3:=hb2.trans (hb3.mono hb2.size)
 obtain ⟨hc3,hf3,hs3⟩:=bcell hB3
 have hB3':=hB1.trans (hB3.mono hB1.size)
 go_wp2_with fail
 refine (toDisk_any s t _).mono ?_
 rintro r w4 ⟨rfl,hb4⟩
 go_wp2_with fail
 have hB4:=hB3'.trans (hb4.mono hB3'.size)
 refine (HI.out _ (ht.keep hB4) (hp.keep hB4)).mono ?_
 rintro r w5 ⟨rfl,hb5⟩
 go_wp2
 go_ret
 exact ⟨rfl,hB4.trans (hb5.mono hB4.size)⟩
end Go.Proofs.YtldhpaflmnlcaaaGreatDoor
