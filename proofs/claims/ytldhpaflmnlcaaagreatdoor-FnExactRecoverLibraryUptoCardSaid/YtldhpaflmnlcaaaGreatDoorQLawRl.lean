/-
  The law of RecoverLibrary, walked. Own work.
-/
import Derived.Test.YtldhpaflmnlcaaaGreatDoorQRecU
import Derived.Test.YtldhpaflmnlcaaaGreatDoorQHq
set_option linter.all false
set_option maxRecDepth 100000
set_option maxHeartbeats 8000000
namespace Go.Proofs.YtldhpaflmnlcaaaGreatDoor
open Go.RowKit
theorem lawRl_any (s:ByteArray) (w:World) (ht:CutTab w) (hp:PowTab w) (hss:s.size≤1048576) :
  Calls Tryz.prog 13 #[.string s] w fun r w'=>r=.returned (.bool true)∧Below w.heap.size w w':=by
 have hss':¬ (1048576:Int)<s.size:=by omega
 obtain ⟨hRl,hRb,hRm⟩:=good_small (recR_good s)
 obtain ⟨R,hR⟩:∃ R,(recR s).1.1=R:=⟨_,rfl⟩
 obtain ⟨ok,hok⟩:∃ ok,(recR s).2=ok:=⟨_,rfl⟩
 obtain ⟨n,hn⟩:∃ n,(recR s).1.2.1=n:=⟨_,rfl⟩
 obtain ⟨k,hk⟩:∃ k,(recR s).1.2.2=k:=⟨_,rfl⟩
 rw [hR] at hRl hRb hRm
 have hRl':R.length≤1048576:=by omega
 have hRb':∀ d ∈ R,d.body.length≤1048576:=fun d hd=>by have:=hRb d hd;omega
 have hspec:∀ (w2:World),Calls Tryz.prog 57 #[.string s] w2 (RecR R n k ok w2):=fun w2=>by rw [← hR,← hok,← hn,← hk];exact specRecover_any s w2 (by omega)
 have himpl:∀ (w2:World),CutTab w2 → PowTab w2 → Calls Tryz.prog 58 #[.string s] w2 (RecR R n k ok w2):=fun w2 h2 h3=>by rw [← hR,← hok,← hn,← hk];exact implRecover_any s w2 h2 h3 (by omega)
 have HS:=Lib.hid hspec
 have HI:=Lib.hid himpl
 clear hspec himpl hR hok hn hk
 have hbne:=bne_selfL ok
 have hbn:((n:Int) != n)=false:=by simp
 have hbk:((k:Int) != k)=false:=by simp
 have hmR:0≤mkLen R:=mkLen_nonneg R
 go_enter Tryz.func13,Tryz.ntmps13
 go_wp2_with fail
 refine (HS.out _).mono ?_
 rintro r w1 ⟨v1,rfl,ho1,hb1⟩
 have hat1:=ho1.at
 go_wp2_with fail
 refine (HI.out _ (ht.keep hb1) (hp.keep hb1)).mono ?_
 rintro r w2 ⟨v2,rfl,⟨xs2,hxs2,hrow2⟩,hb2⟩
 have hat2:DfsAt w2 v2 R:=by have:=DfsRow.at hrow2;rwa [hxs2] at this
 go_wp2_with fail
 refine (eqDefS_any _ _ R R _ hat2 (hat1.keep hb2) hRl' hRl' hRb' hRb').mono ?_
 rintro r w3 ⟨rfl,hb3⟩
 rw [show decide (R=R)=true by simp]
 have hlen2:lenD xs2=mkLen R:=by unfold lenD;rw [hxs2]
 have hl2:xs2.length=R.length:=by have:=congrArg List.length hxs2;simpa using this
 have hb2':∀ x ∈ xs2,x.1.body.length≤1048576:=fun x hx=>hRb' _ (by rw [← hxs2];exact List.mem_map_of_mem hx)
 have hmall:=markedD_all xs2 1
 rw [hxs2,hl2] at hmall
 have HM:=Lib.hid (And.intro hmall hl2)
 have H2:=Lib.hid hlen2
 have hn2:xs2.length≤1048576:=by omega
 have hm2:1+lenD xs2≤8388608:=by rw [hlen2];omega
 have hrow3:=DfsRow.keep hb3 hrow2
 have hT2:=ownL_lt hrow2
 have hz1:=hb1.size
 have hz2:=hb2.size
 have hz3:=hb3.size
 clear hmall hl2 hlen2 hxs2
 go_wp2_with fail
 refine (markDefS_any _ xs2 1 w1.heap.size _ hrow3 hn2 hb2' (by omega) hm2).mono ?_
 rintro r w4 ⟨rfl,hrow4,hex4⟩
 rw [H2.out]
 have hz4:=hex4.size
 have hb24:Exc (fun k=>w1.heap.size≤k) w1 w4:=(Below.exc (hb2.trans (hb3.mono hz2))).trans (hex4.mono (fun k hk=>(hT2 k hk).1))
 have hat4:DfsAt w4 v2 (mkDs R 1):=by have:=DfsRow.at hrow4;rw [HM.out.2] at this;rwa [HM.out.1] at this
 have hat14:DfsAt w4 v1 R:=dfsSub hat1 (subExc (Below.refl _ _) hb24 (fun k hk=>hk))
 have hB4:Below w1.heap.size w1 w4:=below_exc hb24 (Nat.le_refl _) (fun k hk=>hk)
 have hnr:¬ (1+mkLen R<0):=by omega
 have hne:((1+mkLen R:Int) != 1+mkLen R)=false:=by simp
 go_wp2_with fail
 refine (heldDefS_any _ R 1 _ hat4 hRl' hRb' (by omega) (by omega)).mono ?_
 rintro r w5 ⟨rfl,hb5⟩
 have hB5:=hB4.trans (hb5.mono hB4.size)
 go_wp2_with fail
 refine (HI.out _ (ht.keep (hb1.trans (hB5.mono hz1))) (hp.keep (hb1.trans (hB5.mono hz1)))).mono ?_
 rintro r w6 ⟨v6,rfl,ho6,hb6⟩
 have hb46:Below w4.heap.size w4 w6:=hb5.trans (hb6.mono hb5.size)
 go_wp2_with fail
 refine (eqDefS_any _ _ R R _ ho6.at (hat14.keep hb46) hRl' hRl' hRb' hRb').mono ?_
 rintro r w7 ⟨rfl,hb7⟩
 rw [show decide (R=R)=true by simp]
 have hb47:=hb46.trans (hb7.mono hb46.size)
 go_wp2_with fail
 refine (heldDefS_any _ R 1 _ (hat4.keep hb47) hRl' hRb' (by omega) (by omega)).mono ?_
 rintro r w8 ⟨rfl,hb8⟩
 have hb48:=hb47.trans (hb8.mono hb47.size)
 go_wp2
 go_ret
 exact ⟨rfl,hb1.trans ((hB4.trans (hb48.mono hB4.size)).mono hz1)⟩
end Go.Proofs.YtldhpaflmnlcaaaGreatDoor
