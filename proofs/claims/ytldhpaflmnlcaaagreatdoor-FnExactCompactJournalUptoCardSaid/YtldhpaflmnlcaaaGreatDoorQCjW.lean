/-
  CompactJournal, the program's and the reference's. Own work.
-/
import Derived.Test.YtldhpaflmnlcaaaGreatDoorQJ
import Derived.Test.YtldhpaflmnlcaaaGreatDoorQRS
import Derived.Test.YtldhpaflmnlcaaaGreatDoorQRI
import Derived.Test.YtldhpaflmnlcaaaGreatDoorQCjD
set_option linter.all false
set_option maxRecDepth 100000
set_option maxHeartbeats 8000000
namespace Go.Proofs.YtldhpaflmnlcaaaGreatDoor
open Go.RowKit
def compR (s:ByteArray):Option ByteArray:=if s.size≤60000 then journal ((recL s).1.map enD) else none
theorem implCompact_any (s:ByteArray) (w:World) (ht:CutTab w) (hp:PowTab w) (hs:s.size≤4194304) :
  Calls Tryz.prog 56 #[.string s] w (TxtPost (compR s) w):=by
 by_cases h6:s.size≤60000
 ·have hrc:=fun (w1:World) (h1:CutTab w1) (h2:PowTab w1)=>recovered_any s w1 h1 h2 h6
  have hgd:=(recL_parts s).1
  have e:compR s=journal ((recL s).1.map enD):=by unfold compR;rw [if_pos h6]
  rw [e]
  obtain ⟨R,hR⟩:∃ R,recL s=R:=⟨_,rfl⟩
  rw [hR] at hrc hgd ⊢
  obtain ⟨L,n,k⟩:=R
  simp only at hgd ⊢
  obtain ⟨hes,hel⟩:=ensOk_good hgd
  have hLn:=good_len hgd
  obtain ⟨J,hJ⟩:∃ J,journal (L.map enD)=J:=⟨_,rfl⟩
  have hjo:=fun (v1:Value) (w1:World) (h1:PowTab w1) (h2:EnsAt w1 v1 (L.map enD))=>implJournal_any v1 (L.map enD) w1 h1 h2 hel hes
  rw [hJ] at hjo ⊢
  have HD:=Lib.hid (show decide (s.size≤60000)=true by simpa using h6)
  have HC:=Lib.hid hrc
  have HJ:=Lib.hid hjo
  have hfd:∀ (v:Value) (w1:World),(Instr.field 130 (.agg #[v,.int .i64 (n:Int),.int .i64 (k:Int)]) 0).run Tryz.prog w1=.ok v w1:=fun _ _=>by kernel_rfl
  clear hR e hrc h6 hjo hJ hes hel
  go_enter Tryz.func56,Tryz.ntmps56
  go_wp2_with (go_at_call 90;refine (isJour_any s _ (by omega)).mono ?_;rintro r w1 ⟨rfl,rfl⟩;rw [HD.out])
  go_wp2_with fail
  refine (HC.out _ ht hp).mono ?_
  rintro e w2 ⟨v2,rfl,ho2,hb2⟩
  simp only at ho2 ⊢
  go_wp2_with fail
  refine (definitions_any _ L _ ho2.at (by omega)).mono ?_
  rintro e w3 ⟨v3,rfl,ho3,hb3⟩
  have hB3:=hb2.trans (hb3.mono hb2.size)
  go_wp2_with fail
  refine (HJ.out _ _ (hp.keep hB3) ho3).mono ?_
  rintro e w4 ⟨rfl,hb4⟩
  go_wp2
  go_ret2
  exact ⟨rfl,hB3.trans (hb4.mono hB3.size)⟩
 ·have e:compR s=none:=by unfold compR;rw [if_neg h6]
  rw [e]
  have HD:=Lib.hid (show decide (s.size≤60000)=false by simpa using h6)
  clear e h6
  go_enter Tryz.func56,Tryz.ntmps56
  go_wp2_with (go_at_call 90;refine (isJour_any s _ (by omega)).mono ?_;rintro r w1 ⟨rfl,rfl⟩;rw [HD.out])
  go_ret2
  exact ⟨rfl,Below.refl _ _⟩
theorem specCompact_any (s:ByteArray) (w:World) (hs:s.size≤4194304) :
  Calls Tryz.prog 55 #[.string s] w (TxtPost (compR s) w):=by
 by_cases h6:s.size≤60000
 ·have hrc:=fun (w1:World)=>joRecover_any s w1 h6
  have hgd:=(recL_parts s).1
  have e:compR s=journal ((recL s).1.map enD):=by unfold compR;rw [if_pos h6]
  rw [e]
  obtain ⟨R,hR⟩:∃ R,recL s=R:=⟨_,rfl⟩
  rw [hR] at hrc hgd ⊢
  obtain ⟨L,n,k⟩:=R
  simp only at hgd ⊢
  obtain ⟨hes,hel⟩:=ensOk_good hgd
  have hLn:=good_len hgd
  obtain ⟨J,hJ⟩:∃ J,journal (L.map enD)=J:=⟨_,rfl⟩
  have hjo:=fun (v1:Value) (w1:World) (h2:EnsAt w1 v1 (L.map enD))=>specJournal_any v1 (L.map enD) w1 h2 hel hes
  rw [hJ] at hjo ⊢
  have g6:¬ (60000:Int)<s.size:=by omega
  have HC:=Lib.hid hrc
  have HJ:=Lib.hid hjo
  have hfd:∀ (v:Value) (w1:World),(Instr.field 126 (.agg #[v,.int .i64 (n:Int),.int .i64 (k:Int)]) 0).run Tryz.prog w1=.ok v w1:=fun _ _=>by kernel_rfl
  clear hR e hrc h6 hjo hJ hes hel
  go_enter Tryz.func55,Tryz.ntmps55
  go_wp2_with fail
  refine (HC.out _).mono ?_
  rintro e w2 ⟨v2,rfl,ho2,hb2⟩
  simp only at ho2 ⊢
  obtain ⟨xs,hxl,hxs⟩:=ho2.at.vals
  obtain ⟨a,cap,rfl⟩:∃ a cap,v2=.slice a xs.length cap:=by obtain ⟨⟨a,cap,rfl,_⟩,_⟩:=hxs;exact ⟨a,cap,rfl⟩
  have hxn:xs.length≤12:=by rw [← hxl] at hLn;simpa using hLn
  have HX:=Lib.hid hxs
  have HL:=Lib.hid hxl
  have HB:=Lib.hid hb2
  clear ho2 hxs hxl hb2
  go_wp2
  go_loopw [4,14] (fun v i wr=>∃ k:Nat,k≤xs.length∧i=.int .i64 k∧DnSt w2 wr w2.heap.size v xs k) (fun _ i _=>xs.length - (intOf i).toNat)
  case atStart=>exact ⟨0,by omega,rfl,⟨by simp,.inl ⟨rfl,rfl⟩⟩,Below.refl _ _,Nat.le_refl _,Nat.le_refl _⟩
  case round =>
   obtain ⟨k,hk,rfl,hst⟩:=hrel
   obtain ⟨ao,cp,rfl⟩:=owns_shape' hst.1
   have HST:=Lib.hid hst
   by_cases hlt:k<xs.length
   ·obtain ⟨b,o,rfl,g0,g1,g2,g3,ab,cb,g4⟩:=vals_at HX.out k hlt
    have hbel:=hst.2.1
    have c0:=cell_keep hbel g0
    have c1:=cell_keep hbel g1
    have c2:=cell_keep hbel g2
    have c3:=cell_keep hbel g3
    rw [g4] at c3
    have hrow:=owns_keep (alloc_below wr (.cells #[.string xs[k].1.name,.int .i64 xs[k].1.inn,.int .i64 xs[k].1.out,.slice ab xs[k].1.body.length cb] 28)) hst.1
    have hsz:=hst.2.2.2
    have HG:=Lib.hid (show enP xs[k]=(enD xs[k].1,.slice ab xs[k].1.body.length cb) by unfold enP;rw [g4])
    have STEP:∀ (v':Value) (w':World) (o o2:Obj),w'.ownsRow w2.heap.size 54 4 v' (k+1) (((xs.take k).map enP).flatMap enCells ++ enCells (enD xs[k].1,.slice ab xs[k].1.body.length cb)) → ((wr.alloc o2).alloc o).grownBy w' (Value.slice ao k cp).ownBlock → DnSt w2 w' w2.heap.size v' xs (k+1):=fun v' w' o o2 h1 h2=>hst.step hlt (by rw [HG.out];exact h1) h2
    have HW:=Lib.hid hrow
    clear g0 g1 g2 g3 g4 hst hrow
    go_wp2_with (at_builtin;go_must (refine en_append (e:=enD xs[k].1) (ab:=ab) (nb:=xs[k].1.body.length) (cb:=cb) (g:=wr.heap.size+1) rfl (.tmp 18) (.tmp 24) rfl w2.heap.size _ k _ (by simp) rfl rfl HW.out ?e1 ?e2 ?_;(case e1=>(simp;omega));(case e2=>omega);intro v' w' h1 h2;have hst:=STEP v' w' _ _ h1 h2;obtain ⟨ao',cp',rfl⟩:=owns_shape' h1;clear h1 h2))
    go_roundw
    case rel=>exact ⟨k+1,by omega,by go_num,hst⟩
    case measure=>simp [intOf];omega
   ·have hkk:k=xs.length:=by omega
    subst hkk
    obtain ⟨he,hbe⟩:=HST.out.fin HX.out
    rw [HL.out] at he
    have HE:=Lib.hid he
    clear he
    go_wp2_with (go_at_call 42;refine (HJ.out _ _ HE.out).mono ?_;rintro e w4 ⟨rfl,hb4⟩)
    go_ret2
    have hB:=HB.out.trans (hbe.mono HB.out.size)
    exact ⟨rfl,hB.trans (hb4.mono hB.size)⟩
 ·have e:compR s=none:=by unfold compR;rw [if_neg h6]
  rw [e]
  have g6:(60000:Int)<s.size:=by omega
  clear e h6
  go_enter Tryz.func55,Tryz.ntmps55
  go_wp2
  go_ret2
  exact ⟨rfl,Below.refl _ _⟩
end Go.Proofs.YtldhpaflmnlcaaaGreatDoor
