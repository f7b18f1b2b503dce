/-
  The law of ParseTerm, walked. (Printed from ParseDef's by a small program.) Own work.
-/
import Derived.Test.YtldhpaflmnlcaaaGreatDoorQPtS
import Derived.Test.YtldhpaflmnlcaaaGreatDoorQPtX
set_option linter.all false
set_option maxRecDepth 100000
set_option maxHeartbeats 8000000
namespace Go.Proofs.YtldhpaflmnlcaaaGreatDoor
open Go.RowKit
theorem readT_len (L:List Df) (s:ByteArray):(readT L s).1.length≤400:=by
 unfold readT
 split
 ·unfold parsT
  cases ht:tokL s with
  | error p=>simp [ptR]
  | ok ts =>
   simp only
   cases hw:wholeL L s.size ts with
   | error p=>simp [ptR]
   | ok ns =>
    obtain ⟨x,hx⟩:=whole_typed (ts:=ts) (tokL_ok ht).1 hw
    exact typedL_len hx
 ·simp
theorem boxT {w W:World} {a:Value} {t:TypeId} (hB:Below (w.heap.size+1) (w.alloc (.cells #[a] t)) W) :
  W.cell? ⟨w.heap.size,0,none⟩=some a∧w.heap.size<W.heap.size∧Below w.heap.size w W:=by
 obtain ⟨h0,_,h5,h6⟩:=res1 hB
 exact ⟨h0,h5,h6⟩
theorem ownT_lt {w:World} {B:Nat} {v:Value} {xs:List (Df × Value)} (h:DfsRow w B v xs):∀ k,OwnD v xs k → B≤k∧k<w.heap.size:=by
 rintro k (hk|⟨x,hx,hk⟩)
 ·exact World.ownsRow.lt h.1 k hk
 ·exact World.ownsRow.lt (h.2.1 x hx) k hk
def DoT (ns:List Nd) (p c:Int) (w:World) (e:Ending) (w':World):Prop :=
 ∃ v,e=.returned (.tuple #[.agg #[v],.int .i64 p,.int .i64 c])∧NdsOwn w' w.heap.size v ns∧Below w.heap.size w w'
theorem lawPt_any (v:Value) (L:List Df) (s:ByteArray) (w:World) (hv:DfsAt w v L) (hn:L.length≤1048576) (hs:∀ x ∈ L,DfOk x) (hss:s.size≤1048576) (het:ErrTab w) (hm:1+mkLen L≤8388608) :
  Calls Tryz.prog 5 #[v,.string s] w fun r w'=>r=.returned (.bool true)∧Below w.heap.size w w':=by
 obtain ⟨a,cap,rfl⟩:∃ a cap,v=.slice a L.length cap:=by obtain ⟨a,cap,rfl,_⟩:=hv;exact ⟨a,cap,rfl⟩
 have hLb:∀ d ∈ L,d.body.length≤1048576:=fun d hd=>(hs d hd).2.2
 have hss':¬ (1048576:Int)<s.size:=by omega
 have hdb:=readT_len L s
 have hspec:=fun (v2:Value) (w2:World) (h2:DfsAt w2 v2 L)=>specParseTerm_any v2 L s w2 h2 hn hs (by omega)
 have himpl:=fun (v2:Value) (w2:World) (h3:ErrTab w2) (h2:DfsAt w2 v2 L)=>implParseTerm_any v2 L s w2 h3 h2 hn hs (by omega)
 obtain ⟨R,hR⟩:∃ R,readT L s=R:=⟨_,rfl⟩
 rw [hR] at hspec himpl hdb
 obtain ⟨ns,p,c⟩:=R
 simp only at hdb
 have hdb':ns.length≤1048576:=by omega
 have hspec2:∀ (v2:Value) (w2:World),DfsAt w2 v2 L → Calls Tryz.prog 28 #[v2,.string s] w2 (DoT ns p c w2):=hspec
 have himpl2:∀ (v2:Value) (w2:World),ErrTab w2 → DfsAt w2 v2 L → Calls Tryz.prog 29 #[v2,.string s] w2 (DoT ns p c w2):=himpl
 have HS:=Lib.hid hspec2
 have HI:=Lib.hid himpl2
 clear hspec himpl hspec2 himpl2 hR
 have hbp:((p:Int) != p)=false:=by simp
 have hbc:((c:Int) != c)=false:=by simp
 go_enter Tryz.func5,Tryz.ntmps5
 go_wp2_with fail
 refine (szDefS_any _ L _ _ hv hs hn (by omega) (by omega)).mono ?_
 rintro r w1 ⟨n1,rfl,hn1,hn1',hb1⟩
 by_cases hneg:n1<0
 ·go_wp2
  go_ret
  exact ⟨rfl,hb1⟩
 have hnn:¬ n1<0:=hneg
 go_wp2_with fail
 refine (toDefS_any _ L _ (hv.keep hb1) hn hLb).mono ?_
 rintro r w2 ⟨v2,rfl,ho2,hb2⟩
 go_wp2_with fail
 refine (HS.out v2 w2 ho2.at).mono ?_
 rintro r w3 ⟨vw,rfl,how,hb3⟩
 obtain ⟨aw,cw,rfl⟩:=how.slice
 have hA3:Below w.heap.size w w3:=hb1.trans ((hb2.trans (hb3.mono hb2.size)).mono hb1.size)
 have hz3:=hA3.size
 go_wp2_with fail
 refine (toDefS_any _ L _ (hv.keep (hA3.alloc hz3 _)) hn hLb).mono ?_
 rintro r w4 ⟨v4,rfl,⟨xs4,hxs4,hrow4⟩,hb4⟩
 have hC4:Below (w3.heap.size+1) (w3.alloc (.cells #[.slice aw ns.length cw] 26)) w4:=hb4.mono (by simp)
 have hat4:DfsAt w4 v4 L:=by have:=DfsRow.at hrow4;rwa [hxs4] at this
 have hrow4':DfsRow w4 (w3.heap.size+1) v4 xs4:=by have:=hrow4;simpa [DfsRow,World.size_alloc] using this
 go_wp2_with fail
 refine (HI.out v4 w4 (het.keep (hA3.trans ((boxT hC4).2.2.mono hz3))) hat4).mono ?_
 rintro r w5 ⟨v5,rfl,ho5,hb5⟩
 obtain ⟨a5,c5,rfl⟩:=ho5.slice
 have hz4:=hC4.size
 simp only [World.size_alloc] at hz4
 have hz5:=hb5.size
 have hC5:Below (w3.heap.size+1) (w3.alloc (.cells #[.slice aw ns.length cw] 26)) w5:=hC4.trans (hb5.mono (by omega))
 obtain ⟨x0,zx,hk5⟩:=boxT hC5
 go_wp2_with fail
 obtain ⟨W5,hW5⟩:∃ W5,W5=w5.alloc (.cells #[.slice a5 ns.length c5] 26):=⟨_,rfl⟩
 rw [← hW5]
 have hCW:Below (w3.heap.size+1) (w3.alloc (.cells #[.slice aw ns.length cw] 26)) W5:=by rw [hW5];exact hC5.trans ((alloc_below w5 (.cells #[.slice a5 ns.length c5] 26)).mono (by omega))
 have hD5:Below (w5.heap.size+1) (w5.alloc (.cells #[.slice a5 ns.length c5] 26)) W5:=by rw [hW5];exact Below.refl _ _
 have hkW:=(boxT hCW).2.2
 have hjW:=(boxT hD5).2.2
 have hzW:W5.heap.size=w5.heap.size+1:=by rw [hW5];simp
 clear hW5 x0
 refine (eqTerm_any _ _ ns ns _ (ho5.at.keep hjW) (how.at.keep hkW) hdb' hdb').mono ?_
 rintro r w6 ⟨rfl,hb6⟩
 rw [show decide (ns=ns)=true by simp]
 have hC6:=hCW.trans (hb6.mono (by omega))
 have hD6:=hD5.trans (hb6.mono (by omega))
 obtain ⟨x0,zx,hk6⟩:=boxT hC6
 obtain ⟨y0,zy,hj6⟩:=boxT hD6
 have hA6:=hA3.trans (hk6.mono (by omega))
 go_wp2_with fail
 refine (toDefS_any _ L _ (hv.keep hA6) hn hLb).mono ?_
 rintro r w7 ⟨v7,rfl,ho7,hb7⟩
 have hD7:=hD6.trans (hb7.mono (by omega))
 have hj7:=(boxT hD7).2.2
 have hk47:Below w4.heap.size w4 w7:=hb5.trans (hj7.mono hz5)
 go_wp2_with fail
 refine (eqDefS_any _ _ L L _ (hat4.keep hk47) ho7.at hn hn hLb hLb).mono ?_
 rintro r w8 ⟨rfl,hb8⟩
 rw [show decide (L=L)=true by simp]
 have hb68:=hb7.trans (hb8.mono hb7.size)
 have hC8:=hC6.trans (hb68.mono (by omega))
 have hD8:=hD6.trans (hb68.mono (by omega))
 clear x0 y0
 obtain ⟨x0,zx8,hk8⟩:=boxT hC8
 obtain ⟨y0,zy8,hj8⟩:=boxT hD8
 have hA8:=hA3.trans (hk8.mono (by omega))
 have hk48:Below w4.heap.size w4 w8:=hb5.trans (hj8.mono hz5)
 have hlen4:lenD xs4=mkLen L:=by unfold lenD;rw [hxs4]
 have hl4:xs4.length=L.length:=by have:=congrArg List.length hxs4;simpa using this
 have hb4':∀ x ∈ xs4,x.1.body.length≤1048576:=fun x hx=>hLb _ (by rw [← hxs4];exact List.mem_map_of_mem hx)
 have hmL:0≤mkLen L:=mkLen_nonneg L
 have H4:=Lib.hid hlen4
 have hn4:xs4.length≤1048576:=by omega
 have hm4:1+lenD xs4≤8388608:=by rw [hlen4];exact hm
 have hrow8:=hrow4'.keep hk48
 have hT4:∀ k,OwnD v4 xs4 k → w3.heap.size+1≤k∧k<w4.heap.size:=fun k hk=>ownT_lt hrow4' k hk
 clear hl4 hlen4 hxs4
 go_wp2_with fail
 refine (markDefS_any _ xs4 1 (w3.heap.size+1) _ hrow8 hn4 hb4' (by omega) hm4).mono ?_
 rintro r w9 ⟨rfl,hrow9,hex9⟩
 rw [H4.out]
 have hz9:=hex9.size
 have hC9:=hC8.trans (below_exc hex9 (by omega) (fun k hk=>(hT4 k hk).1))
 clear x0
 obtain ⟨x0,zx9,hk9⟩:=boxT hC9
 have yy:∀ j,w9.cell? ⟨w5.heap.size,j,none⟩=w8.cell? ⟨w5.heap.size,j,none⟩:=fun j=>hex9.cell.1 _ _ (by omega) (fun hk=>by have:=(hT4 _ hk).2;omega)
 replace y0:=(yy 0).trans y0
 clear yy
 have ho9:NdsOwn w9 w4.heap.size (.slice a5 ns.length c5) ns:=owns_exc hex9 (ho5.keep hj8) (fun k hk ht=>by have:=(World.ownsRow.lt ho5 k hk).1;have:=(hT4 k ht).2;omega)
 have hnk:¬ (1+mkLen L<0):=by omega
 have zy9:w5.heap.size<w9.heap.size:=by omega
 go_wp2_with fail
 refine (eqTerm_any _ _ ns ns _ ho9.at (how.at.keep hk9) hdb' hdb').mono ?_
 rintro r w10 ⟨rfl,hb10⟩
 rw [show decide (ns=ns)=true by simp]
 have hC10:=hC9.trans (hb10.mono (by omega))
 clear x0
 obtain ⟨x0,zx10,hk10⟩:=boxT hC10
 replace y0:=cell_keep hb10 y0
 have zy10:=cell_lt y0
 go_wp2_with fail
 refine (markTerm_any _ ns 1 w4.heap.size _ (ho9.keep hb10) hdb' (by omega) (by omega)).mono ?_
 rintro r w11 ⟨rfl,ho11,hex11⟩
 have hz11:=hex11.size
 have hT5:∀ k,Own1 (.slice a5 ns.length c5) k → w4.heap.size≤k∧k<w5.heap.size:=fun k hk=>World.ownsRow.lt ho5 k hk
 have hC11:=hC10.trans (below_exc hex11 (by omega) (fun k hk=>by have:=(hT5 k hk).1;omega))
 clear x0
 obtain ⟨x0,zx11,hk11⟩:=boxT hC11
 have yy:∀ j,w11.cell? ⟨w5.heap.size,j,none⟩=w10.cell? ⟨w5.heap.size,j,none⟩:=fun j=>hex11.cell.1 _ _ (by omega) (fun hk=>by have:=(hT5 _ hk).2;omega)
 replace y0:=(yy 0).trans y0
 clear yy
 have zy11:=cell_lt y0
 go_wp2_with fail
 refine (heldTerm_any _ ns.length 1 _ ho11.at hdb' (by omega) (by omega)).mono ?_
 rintro r w12 ⟨rfl,hb12⟩
 have hC12:=hC11.trans (hb12.mono (by omega))
 clear x0
 obtain ⟨x0,zx12,hk12⟩:=boxT hC12
 replace y0:=cell_keep hb12 y0
 have zy12:=cell_lt y0
 have hA12:=hA3.trans (hk12.mono (by omega))
 have hnq:¬ (1+3 * (ns.length:Int)<0):=by omega
 have hnm:((1+3 * (ns.length:Int)) != 1+3 * (ns.length:Int))=false:=by simp
 go_wp2_with fail
 refine (toDefS_any _ L _ (hv.keep hA12) hn hLb).mono ?_
 rintro r w13 ⟨v13,rfl,ho13,hb13⟩
 go_wp2_with fail
 refine (HI.out v13 w13 (het.keep (hA12.trans (hb13.mono hA12.size))) ho13.at).mono ?_
 rintro r w14 ⟨v14,rfl,ho14,hb14⟩
 obtain ⟨a14,c14,rfl⟩:=ho14.slice
 have hb1214:=hb13.trans (hb14.mono hb13.size)
 have hC14:=hC12.trans (hb1214.mono (by omega))
 clear x0
 obtain ⟨x0,zx14,hk14⟩:=boxT hC14
 replace y0:=cell_keep hb1214 y0
 have zy14:=cell_lt y0
 go_wp2_with fail
 obtain ⟨W14,hW14⟩:∃ W14,W14=w14.alloc (.cells #[.slice a14 ns.length c14] 26):=⟨_,rfl⟩
 rw [← hW14]
 have hbW:Below w14.heap.size w14 W14:=by rw [hW14];exact alloc_below _ _
 have hCX:=hC14.trans (hbW.mono (by omega))
 replace y0:=cell_keep hbW y0
 have hzX:=hbW.size
 clear hW14 x0
 refine (eqTerm_any _ _ ns ns _ (ho14.at.keep hbW) (how.at.keep (boxT hCX).2.2) hdb' hdb').mono ?_
 rintro r w15 ⟨rfl,hb15⟩
 rw [show decide (ns=ns)=true by simp]
 have hC15:=hCX.trans (hb15.mono (by omega))
 obtain ⟨x0,zx15,hk15⟩:=boxT hC15
 replace y0:=cell_keep hb15 y0
 have zy15:=cell_lt y0
 have hb1115:Below w11.heap.size w11 w15:=hb12.trans ((hb1214.trans ((hbW.trans (hb15.mono hzX)).mono hb1214.size)).mono hb12.size)
 have hA15:=hA3.trans (hk15.mono (by omega))
 go_wp2_with fail
 refine (heldTerm_any _ ns.length 1 _ (ho11.at.keep hb1115) hdb' (by omega) (by omega)).mono ?_
 rintro r w16 ⟨rfl,hb16⟩
 go_wp2
 go_ret
 exact ⟨rfl,hA15.trans (hb16.mono (by have:=hA15.size;omega))⟩
end Go.Proofs.YtldhpaflmnlcaaaGreatDoor
