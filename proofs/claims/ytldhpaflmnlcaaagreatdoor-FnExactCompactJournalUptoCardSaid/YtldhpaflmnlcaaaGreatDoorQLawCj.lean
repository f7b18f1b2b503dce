/-
  The law of CompactJournal, walked. Own work.
-/
import Derived.Test.YtldhpaflmnlcaaaGreatDoorQCjW
set_option linter.all false
set_option maxRecDepth 100000
set_option maxHeartbeats 8000000
namespace Go.Proofs.YtldhpaflmnlcaaaGreatDoor
open Go.RowKit
theorem lawCj_any (s:ByteArray) (w:World) (ht:CutTab w) (hp:PowTab w) (hss:s.size≤1048576) :
  Calls Tryz.prog 12 #[.string s] w fun r w'=>r=.returned (.bool true)∧Below w.heap.size w w':=by
 have hss':¬ (1048576:Int)<s.size:=by omega
 have hspec:=fun (w2:World)=>specCompact_any s w2 (by omega)
 have himpl:=fun (w2:World) (h2:CutTab w2) (h3:PowTab w2)=>implCompact_any s w2 h2 h3 (by omega)
 obtain ⟨R,hR⟩:∃ R,compR s=R:=⟨_,rfl⟩
 rw [hR] at hspec himpl
 obtain ⟨tx,htx⟩:∃ tx,R.getD ⟨#[]⟩=tx:=⟨_,rfl⟩
 obtain ⟨ok,hok⟩:∃ ok,R.isSome=ok:=⟨_,rfl⟩
 have HR:=Lib.hid htx
 have HOK:=Lib.hid hok
 have HS:=Lib.hid hspec
 have HI:=Lib.hid himpl
 clear hspec himpl hR hok htx
 have hbne:(ok != ok)=false:=by cases ok <;> rfl
 have hsne:(tx.toList != tx.toList)=false:=by simp
 have hseq:(tx.toList == tx.toList)=true:=by simp
 go_enter Tryz.func12,Tryz.ntmps12
 go_wp2_with fail
 refine (HS.out _).mono ?_
 rintro r w1 ⟨rfl,hb1⟩
 rw [HOK.out,HR.out]
 go_wp2_with fail
 refine (HI.out _ (ht.keep hb1) (hp.keep hb1)).mono ?_
 rintro r w2 ⟨rfl,hb2⟩
 rw [HOK.out,HR.out]
 go_wp2
 go_ret
 exact ⟨rfl,hb1.trans (hb2.mono hb1.size)⟩
end Go.Proofs.YtldhpaflmnlcaaaGreatDoor
