/-
  The law of RecoverDisk, walked. Own work.
-/
import Derived.Test.YtldhpaflmnlcaaaGreatDoorQRdkW
import Derived.Test.YtldhpaflmnlcaaaGreatDoorQHq
set_option linter.all false
set_option maxRecDepth 100000
set_option maxHeartbeats 8000000
namespace Go.Proofs.YtldhpaflmnlcaaaGreatDoor
open Go.RowKit
theorem lawRd_any (s t:ByteArray) (w:World) (ht:CutTab w) (hp:PowTab w) (hs:s.size≤1048576) (hs2:t.size≤1048576) :
  Calls Tryz.prog 14 #[.agg #[.string s,.string t]] w fun r w'=>r=.returned (.bool true)∧Below w.heap.size w w':=by
 obtain ⟨hRl,hRb,hRm⟩:=good_small (rdkR_good s t)
 have hspec:=fun (w2:World)=>specRdk_any s t w2 hs hs2
 have himpl:=fun (w2:World) (h2:CutTab w2) (h3:PowTab w2)=>implRdk_any s t w2 h2 h3 hs hs2
 obtain ⟨Q,hQ⟩:∃ Q,rdkR s t=Q:=⟨_,rfl⟩
 rw [hQ] at hspec himpl hRl hRb hRm
 obtain ⟨D,R,ok⟩:=Q
 simp only [RdkP] at hspec himpl hRl hRb hRm
 have hRl':R.length≤1048576:=by omega
 have hRb':∀ d ∈ R,d.body.length≤1048576:=fun d hd=>by have:=hRb d hd;omega
 have HS:=Lib.hid hspec
 have HI:=Lib.hid himpl
 clear hspec himpl hQ
 have hbne:=bne_selfD ok
 have hmR:0≤mkLen R:=mkLen_nonneg R
 go_enter Tryz.func14,Tryz.ntmps14
 go_wp2_with fail
 refine (szDisk_any s t _ _ hs hs2 (by omega) (by omega)).mono ?_
 rintro r w1 ⟨n1,rfl,hn1,hn1',hb1⟩
 obtain ⟨x0,x1,xf,z1,hB1⟩:=box2 (hb1.mono (by simp))
 by_cases hneg:n1<0
 ·go_wp2
  go_ret
  exact ⟨rfl,hB1⟩
 have hnn:¬ n1<0:=hneg
 go_wp2_with fail
 refine (toDisk_any s t _).mono ?_
 rintro r w2 ⟨rfl,hb2⟩
 go_wp2_with fail
 refine (HS.out _).mono ?_
 rintro r w3 ⟨v3,rfl,ho3,hb3⟩
 have hb13:=hb2.trans (hb3.mono hb2.size)
 have hB3:=hB1.trans (hb13.mono hB1.size)
 have y0:=cell_keep hb13 x0
 have y1:=cell_keep hb13 x1
 have hat3:=ho3.at
 obtain ⟨a3,c3,rfl,_,_⟩:=id hat3
 have hzw:=hB3.size
 have hz0:w.heap.size<w3.heap.size:=cell_lt y0
 clear x0 x1 xf z1 hb1 hb2 hb3 hb13 ho3
 go_wp2_with fail
 refine (toDisk_any s t _).mono ?_
 rintro r w4 ⟨rfl,hb4⟩
 obtain ⟨A0,A1,AF,hzA,hA⟩:=box2 (w:=w3) (hb4.mono (by simp))
 have hB4:=hB3.trans (hA.mono hB3.size)
 obtain ⟨bA,hbA⟩:∃ bA,bA=w3.heap.size:=⟨_,rfl⟩
 rw [← hbA] at A0 A1 AF hzA ⊢
 have HBA:=Lib.hid hbA
 clear hbA hb4
 go_wp2_with fail
 refine (HI.out _ (ht.keep hB4) (hp.keep hB4)).mono ?_
 rintro r w5 ⟨v5,rfl,⟨xs5,hxs5,hrow5⟩,hb5⟩
 have hat5:DfsAt w5 v5 R:=by have:=DfsRow.at hrow5;rwa [hxs5] at this
 obtain ⟨a5,c5,rfl,_,_⟩:=id hat5
 have hA5:=hA.trans (hb5.mono hA.size)
 have C0:=cell_keep hb5 A0
 have C1:=cell_keep hb5 A1
 have hzA5:=cell_lt C0
 have hT5:=ownL_lt hrow5
 clear A0 A1 AF
 go_wp2_with fail
 refine (eqDisk_any D ⟨#[]⟩ _).mono ?_
 rintro r w6 ⟨rfl,hb6⟩
 have hb56:Below w5.heap.size w5 w6:=(alloc_below _ _).trans (hb6.mono (by simp))
 go_wp2_with fail
 refine (eqDefS_any _ _ R R _ (hat5.keep hb56) (hat3.keep (hA5.trans (hb56.mono hA5.size))) hRl' hRl' hRb' hRb').mono ?_
 rintro r w7 ⟨rfl,hb7⟩
 rw [show decide (R=R)=true by simp]
 have hb57:=hb56.trans (hb7.mono hb56.size)
 have h37:=hA5.trans (hb57.mono hA5.size)
 have hlen5:lenD xs5=mkLen R:=by unfold lenD;rw [hxs5]
 have hl5:xs5.length=R.length:=by have:=congrArg List.length hxs5;simpa using this
 have hb5':∀ x ∈ xs5,x.1.body.length≤1048576:=fun x hx=>hRb' _ (by rw [← hxs5];exact List.mem_map_of_mem hx)
 have hmall:=markedD_all xs5 1
 rw [hxs5,hl5] at hmall
 have HM:=Lib.hid (And.intro hmall hl5)
 have H2:=Lib.hid hlen5
 have hn5:xs5.length≤1048576:=by omega
 have hm5:1+lenD xs5≤8388608:=by rw [hlen5];omega
 have hrow7:=DfsRow.keep hb57 hrow5
 have z0:=cell_keep h37 y0
 have z1:=cell_keep h37 y1
 have D0:=cell_keep hb57 C0
 have D1:=cell_keep hb57 C1
 have hs4:=hA.size
 clear hmall hl5 hlen5 hxs5 hb6 hb7 hb56
 go_wp2_with fail
 refine (markDefS_any _ xs5 1 w4.heap.size _ hrow7 hn5 hb5' (by omega) hm5).mono ?_
 rintro r w8 ⟨rfl,hrow8,hex8⟩
 rw [H2.out]
 have h38:Exc (fun k=>w3.heap.size≤k) w3 w8:=(Below.exc h37).trans (hex8.mono (fun k hk=>Nat.le_trans hs4 (hT5 k hk).1))
 have hB38:Below w3.heap.size w3 w8:=below_exc h38 (Nat.le_refl _) (fun k hk=>hk)
 have hB8:=hB3.trans (hB38.mono hB3.size)
 have hat8:DfsAt w8 (.slice a5 R.length c5) (mkDs R 1):=by have:=DfsRow.at hrow8;rw [HM.out.2] at this;rwa [HM.out.1] at this
 have hat38:DfsAt w8 (.slice a3 R.length c3) R:=dfsSub hat3 (subExc h37 hex8 (fun k hk=>Nat.le_trans hs4 (hT5 k hk).1))
 have Z0:w8.cell? ⟨w.heap.size,0,none⟩=some (.string s):=(hex8.cell.1 _ _ (cell_lt z0) (fun hk=>by have:=(hT5 _ hk).1;omega)).trans z0
 have Z1:w8.cell? ⟨w.heap.size,1,none⟩=some (.string t):=(hex8.cell.1 _ _ (cell_lt z1) (fun hk=>by have:=(hT5 _ hk).1;omega)).trans z1
 have E0:w8.cell? ⟨bA,0,none⟩=some (.string D):=(hex8.cell.1 _ _ (cell_lt D0) (fun hk=>by have:=(hT5 _ hk).1;omega)).trans D0
 have E1:w8.cell? ⟨bA,1,none⟩=some (.string ⟨#[]⟩):=(hex8.cell.1 _ _ (cell_lt D1) (fun hk=>by have:=(hT5 _ hk).1;omega)).trans D1
 have hnr:¬ (1+mkLen R<0):=by omega
 have hne:((1+mkLen R:Int) != 1+mkLen R)=false:=by simp
 clear hat3 hat5 hrow5 hrow7 hrow8 hex8 h38 h37 y0 y1 z0 z1 C0 C1 D0 D1 hb57 hA5 hb5 hA hB4 hT5
 go_wp2_with fail
 refine (heldDefS_any _ R 1 _ hat8 hRl' hRb' (by omega) (by omega)).mono ?_
 rintro r w9 ⟨rfl,hb9⟩
 have Y0:=cell_keep hb9 Z0
 have Y1:=cell_keep hb9 Z1
 have hz9:=cell_lt Y0
 go_wp2_with fail
 refine (toDisk_any s t _).mono ?_
 rintro r w10 ⟨rfl,hb10⟩
 have h810:=hb9.trans (hb10.mono hb9.size)
 have hB10:=hB8.trans (h810.mono hB8.size)
 go_wp2_with fail
 refine (HI.out _ (ht.keep hB10) (hp.keep hB10)).mono ?_
 rintro r w11 ⟨v11,rfl,ho11,hb11⟩
 have h811:=h810.trans (hb11.mono h810.size)
 have hat11:=ho11.at
 obtain ⟨a11,c11,rfl,_,_⟩:=id hat11
 have F0:=cell_keep h811 E0
 have F1:=cell_keep h811 E1
 have hzF:=cell_lt F0
 clear Y0 Y1 Z0 Z1 E0 E1 ho11
 go_wp2_with fail
 refine (eqDisk_any D ⟨#[]⟩ _).mono ?_
 rintro r w12 ⟨rfl,hb12⟩
 have hb1112:Below w11.heap.size w11 w12:=(alloc_below _ _).trans (hb12.mono (by simp))
 have h812:=h811.trans (hb1112.mono h811.size)
 go_wp2_with fail
 refine (eqDefS_any _ _ R R _ (hat11.keep hb1112) (hat38.keep h812) hRl' hRl' hRb' hRb').mono ?_
 rintro r w13 ⟨rfl,hb13⟩
 rw [show decide (R=R)=true by simp]
 have h813:=h812.trans (hb13.mono h812.size)
 go_wp2_with fail
 refine (heldDefS_any _ R 1 _ (hat8.keep h813) hRl' hRb' (by omega) (by omega)).mono ?_
 rintro r w14 ⟨rfl,hb14⟩
 have h814:=h813.trans (hb14.mono h813.size)
 go_wp2
 go_ret
 exact ⟨rfl,hB8.trans (h814.mono hB8.size)⟩
end Go.Proofs.YtldhpaflmnlcaaaGreatDoor
