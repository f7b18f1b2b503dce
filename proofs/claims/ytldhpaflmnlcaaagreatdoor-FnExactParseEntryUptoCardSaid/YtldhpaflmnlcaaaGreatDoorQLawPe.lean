/-
  The law of ParseEntry, walked. Own work (turned from the law of ParseDef).
-/
import Derived.Test.YtldhpaflmnlcaaaGreatDoorQPeS
import Derived.Test.YtldhpaflmnlcaaaGreatDoorQPeK
set_option linter.all false
namespace Go.Proofs.YtldhpaflmnlcaaaGreatDoor
open Go.RowKit
theorem raw_body {L:List Df} {l:List UInt8} {e:En} (h:rawI L l = some e):e.body.length≤400:=by
 unfold rawI at h
 split at h
 ·cases hd:defL L (bytesOf (l.drop 4)) with
  | none=>rw [hd] at h;cases h
  | some d =>
   rw [hd] at h
   obtain rfl:=Option.some.inj h
   obtain ⟨⟨t,ht⟩,_⟩:=defL_typed hd
   exact typedL_len ht
 ·split at h
  ·obtain rfl:=Option.some.inj h;simp
  ·split at h
   ·split at h
    ·obtain rfl:=Option.some.inj h;simp
    ·cases h
   ·cases h
theorem entR_body (L:List Df) (s:ByteArray):((entR L s).getD e0).body.length≤400:=by
 unfold entR
 split
 ·unfold entL
  cases hr:rawI L s.data.toList with
  | none=>simp [checkE,e0]
  | some e =>
   have:=raw_body hr
   simp only [checkE]
   split
   ·simpa using this
   ·simp [e0]
 ·simp [e0]
theorem bne_selfE (b:Bool):(b != b) = false:=by cases b <;> rfl
set_option maxRecDepth 100000 in
set_option maxHeartbeats 8000000 in
theorem lawPe_any (v:Value) (L:List Df) (s:ByteArray) (w:World) (ht:CutTab w) (hv:DfsAt w v L) (hn:L.length≤1048576) (hs:∀ x ∈ L,DfOk x) (hss:s.size≤1048576) (hm:1+mkLen L≤8388608) :
  Calls Tryz.prog 10 #[v,.string s] w fun r w'=>r = .returned (.bool true)∧Below w.heap.size w w':=by
 obtain ⟨a,cap,rfl⟩:∃ a cap,v = .slice a L.length cap:=by obtain ⟨a,cap,rfl,_⟩:=hv;exact ⟨a,cap,rfl⟩
 have hLb:∀ d ∈ L,d.body.length≤1048576:=fun d hd=>(hs d hd).2.2
 have hss':¬ (1048576:Int) < s.size:=by omega
 have hdb:=entR_body L s
 obtain ⟨d,hd⟩:∃ d,(entR L s).getD e0 = d:=⟨_,rfl⟩
 obtain ⟨ok,hok⟩:∃ ok,(entR L s).isSome = ok:=⟨_,rfl⟩
 rw [hd] at hdb
 have hdb':d.body.length≤1048576:=by omega
 have hspec:∀ (v2:Value) (w2:World),DfsAt w2 v2 L → Calls Tryz.prog 48 #[v2,.string s] w2 (EnP d.kind d.name d.to d.body ok w2):=fun v2 w2 h2=>by rw [← hd,← hok];exact specParseEntry_any v2 L s w2 h2 hn hs (by omega)
 have himpl:∀ (v2:Value) (w2:World),DfsAt w2 v2 L → CutTab w2 → Calls Tryz.prog 49 #[v2,.string s] w2 (EnP d.kind d.name d.to d.body ok w2):=fun v2 w2 h2 ht2=>by rw [← hd,← hok];exact implParseEntry_any v2 L s w2 h2 hn hs ht2 (by omega)
 have HS:=Lib.hid hspec
 have HI:=Lib.hid himpl
 clear hspec himpl hd hok
 have hbne:=bne_selfE ok
 go_enter Tryz.func10,Tryz.ntmps10
 go_wp2_with fail
 refine (szDefS_any _ L _ _ hv hs hn (by omega) (by omega)).mono ?_
 rintro r w1 ⟨n1,rfl,hn1,hn1',hb1⟩
 by_cases hneg:n1 < 0
 ·go_wp2
  go_ret
  exact ⟨rfl,hb1⟩
 have hnn:¬ n1 < 0:=hneg
 go_wp2_with fail
 refine (toDefS_any _ L _ (hv.keep hb1) hn hLb).mono ?_
 rintro r w2 ⟨v2,rfl,ho2,hb2⟩
 go_wp2_with fail
 refine (HS.out v2 w2 ho2.at).mono ?_
 rintro r w3 ⟨vw,rfl,how,hb3⟩
 obtain ⟨aw,cw,rfl⟩:=how.slice
 have hA3:Below w.heap.size w w3:=hb1.trans ((hb2.trans (hb3.mono hb2.size)).mono hb1.size)
 have hz3:=hA3.size
 go_wp2_with fail
 refine (toDefS_any _ L _ (hv.keep (hA3.alloc hz3 _)) hn hLb).mono ?_
 rintro r w4 ⟨v4,rfl,⟨xs4,hxs4,hrow4⟩,hb4⟩
 have hC4:Below (w3.heap.size+1) (w3.alloc (.cells #[.int .i64 d.kind,.string d.name,.string d.to,.slice aw d.body.length cw] 54)) w4:=hb4.mono (by simp)
 have hat4:DfsAt w4 v4 L:=by have:=DfsRow.at hrow4;rwa [hxs4] at this
 have hrow4':DfsRow w4 (w3.heap.size+1) v4 xs4:=by have:=hrow4;simpa [DfsRow,World.size_alloc] using this
 go_wp2_with fail
 refine (HI.out v4 w4 hat4 (ht.keep (hA3.trans ((box4 hC4).2.2.2.2.2.mono hz3)))).mono ?_
 rintro r w5 ⟨v5,rfl,ho5,hb5⟩
 obtain ⟨a5,c5,rfl⟩:=ho5.slice
 have hz4:=hC4.size
 simp only [World.size_alloc] at hz4
 have hz5:=hb5.size
 have hC5:Below (w3.heap.size+1) (w3.alloc (.cells #[.int .i64 d.kind,.string d.name,.string d.to,.slice aw d.body.length cw] 54)) w5:=hC4.trans (hb5.mono (by omega))
 obtain ⟨x0,x1,x2,x3,zx,hk5⟩:=box4 hC5
 go_wp2_with fail
 obtain ⟨W5,hW5⟩:∃ W5,W5 = w5.alloc (.cells #[.int .i64 d.kind,.string d.name,.string d.to,.slice a5 d.body.length c5] 54):=⟨_,rfl⟩
 rw [← hW5]
 have hCW:Below (w3.heap.size+1) (w3.alloc (.cells #[.int .i64 d.kind,.string d.name,.string d.to,.slice aw d.body.length cw] 54)) W5:=by rw [hW5];exact hC5.trans ((alloc_below w5 (.cells #[.int .i64 d.kind,.string d.name,.string d.to,.slice a5 d.body.length c5] 54)).mono (by omega))
 have hD5:Below (w5.heap.size+1) (w5.alloc (.cells #[.int .i64 d.kind,.string d.name,.string d.to,.slice a5 d.body.length c5] 54)) W5:=by rw [hW5];exact Below.refl _ _
 have hkW:=(box4 hCW).2.2.2.2.2
 have hjW:=(box4 hD5).2.2.2.2.2
 have hzW:W5.heap.size = w5.heap.size+1:=by rw [hW5];simp
 clear hW5 x0 x1 x2 x3
 refine (eqEntry_any _ _ d d _ (ho5.at.keep hjW) (how.at.keep hkW) hdb' hdb').mono ?_
 rintro r w6 ⟨rfl,hb6⟩
 rw [show decide (d = d) = true by simp]
 have hC6:=hCW.trans (hb6.mono (by omega))
 have hD6:=hD5.trans (hb6.mono (by omega))
 obtain ⟨x0,x1,x2,x3,zx,hk6⟩:=box4 hC6
 obtain ⟨y0,y1,y2,y3,zy,hj6⟩:=box4 hD6
 have hA6:=hA3.trans (hk6.mono (by omega))
 go_wp2_with fail
 refine (toDefS_any _ L _ (hv.keep hA6) hn hLb).mono ?_
 rintro r w7 ⟨v7,rfl,ho7,hb7⟩
 have hD7:=hD6.trans (hb7.mono (by omega))
 have hj7:=(box4 hD7).2.2.2.2.2
 have hk47:Below w4.heap.size w4 w7:=hb5.trans (hj7.mono hz5)
 go_wp2_with fail
 refine (eqDefS_any _ _ L L _ (hat4.keep hk47) ho7.at hn hn hLb hLb).mono ?_
 rintro r w8 ⟨rfl,hb8⟩
 rw [show decide (L = L) = true by simp]
 have hb68:=hb7.trans (hb8.mono hb7.size)
 have hC8:=hC6.trans (hb68.mono (by omega))
 have hD8:=hD6.trans (hb68.mono (by omega))
 clear x0 x1 x2 x3 y0 y1 y2 y3
 obtain ⟨x0,x1,x2,x3,zx8,hk8⟩:=box4 hC8
 obtain ⟨y0,y1,y2,y3,zy8,hj8⟩:=box4 hD8
 have hA8:=hA3.trans (hk8.mono (by omega))
 have hk48:Below w4.heap.size w4 w8:=hb5.trans (hj8.mono hz5)
 have hlen4:lenD xs4 = mkLen L:=by unfold lenD;rw [hxs4]
 have hl4:xs4.length = L.length:=by have:=congrArg List.length hxs4;simpa using this
 have hb4':∀ x ∈ xs4,x.1.body.length≤1048576:=fun x hx=>hLb _ (by rw [← hxs4];exact List.mem_map_of_mem hx)
 have hmL:0≤mkLen L:=mkLen_nonneg L
 have H4:=Lib.hid hlen4
 have hn4:xs4.length≤1048576:=by omega
 have hm4:1+lenD xs4≤8388608:=by rw [hlen4];exact hm
 have hrow8:=hrow4'.keep hk48
 have hT4:∀ k,OwnD v4 xs4 k → w3.heap.size+1≤k∧k < w4.heap.size:=fun k hk=>ownD_lt hrow4' k hk
 clear hl4 hlen4 hxs4
 go_wp2_with fail
 refine (markDefS_any _ xs4 1 (w3.heap.size+1) _ hrow8 hn4 hb4' (by omega) hm4).mono ?_
 rintro r w9 ⟨rfl,hrow9,hex9⟩
 rw [H4.out]
 have hz9:=hex9.size
 have hC9:=hC8.trans (below_exc hex9 (by omega) (fun k hk=>(hT4 k hk).1))
 clear x0 x1 x2 x3
 obtain ⟨x0,x1,x2,x3,zx9,hk9⟩:=box4 hC9
 have yy:∀ j,w9.cell? ⟨w5.heap.size,j,none⟩ = w8.cell? ⟨w5.heap.size,j,none⟩:=fun j=>hex9.cell.1 _ _ (by omega) (fun hk=>by have:=(hT4 _ hk).2;omega)
 replace y0:=(yy 0).trans y0
 replace y1:=(yy 1).trans y1
 replace y2:=(yy 2).trans y2
 replace y3:=(yy 3).trans y3
 clear yy
 have ho9:NdsOwn w9 w4.heap.size (.slice a5 d.body.length c5) d.body:=owns_exc hex9 (ho5.keep hj8) (fun k hk ht=>by have:=(World.ownsRow.lt ho5 k hk).1;have:=(hT4 k ht).2;omega)
 have hnk:¬ (1+mkLen L < 0):=by omega
 have zy9:w5.heap.size < w9.heap.size:=by omega
 go_wp2_with fail
 refine (eqEntry_any _ _ d d _ ho9.at (how.at.keep hk9) hdb' hdb').mono ?_
 rintro r w10 ⟨rfl,hb10⟩
 rw [show decide (d = d) = true by simp]
 have hC10:=hC9.trans (hb10.mono (by omega))
 clear x0 x1 x2 x3
 obtain ⟨x0,x1,x2,x3,zx10,hk10⟩:=box4 hC10
 replace y0:=cell_keep hb10 y0
 replace y1:=cell_keep hb10 y1
 replace y2:=cell_keep hb10 y2
 replace y3:=cell_keep hb10 y3
 have zy10:=cell_lt y0
 go_wp2_with fail
 refine (markEntry_any _ d 1 w4.heap.size _ (ho9.keep hb10) hdb' (by omega) (by omega)).mono ?_
 rintro r w11 ⟨rfl,ho11,hex11⟩
 have hz11:=hex11.size
 have hT5:∀ k,Own1 (.slice a5 d.body.length c5) k → w4.heap.size≤k∧k < w5.heap.size:=fun k hk=>World.ownsRow.lt ho5 k hk
 have hC11:=hC10.trans (below_exc hex11 (by omega) (fun k hk=>by have:=(hT5 k hk).1;omega))
 clear x0 x1 x2 x3
 obtain ⟨x0,x1,x2,x3,zx11,hk11⟩:=box4 hC11
 have yy:∀ j,w11.cell? ⟨w5.heap.size,j,none⟩ = w10.cell? ⟨w5.heap.size,j,none⟩:=fun j=>hex11.cell.1 _ _ (by omega) (fun hk=>by have:=(hT5 _ hk).2;omega)
 replace y0:=(yy 0).trans y0
 replace y1:=(yy 1).trans y1
 replace y2:=(yy 2).trans y2
 replace y3:=(yy 3).trans y3
 clear yy
 have zy11:=cell_lt y0
 go_wp2_with fail
 refine (heldEntry_any _ d d.body.length 1 _ ho11.at hdb' (by omega) (by omega)).mono ?_
 rintro r w12 ⟨rfl,hb12⟩
 have hC12:=hC11.trans (hb12.mono (by omega))
 clear x0 x1 x2 x3
 obtain ⟨x0,x1,x2,x3,zx12,hk12⟩:=box4 hC12
 replace y0:=cell_keep hb12 y0
 replace y1:=cell_keep hb12 y1
 replace y2:=cell_keep hb12 y2
 replace y3:=cell_keep hb12 y3
 have zy12:=cell_lt y0
 have hA12:=hA3.trans (hk12.mono (by omega))
 have hnq:¬ (1+3 * (d.body.length:Int) < 0):=by omega
 have hnm:((1+3 * (d.body.length:Int)) != 1+3 * (d.body.length:Int)) = false:=by simp
 go_wp2_with fail
 refine (toDefS_any _ L _ (hv.keep hA12) hn hLb).mono ?_
 rintro r w13 ⟨v13,rfl,ho13,hb13⟩
 go_wp2_with fail
 refine (HI.out v13 w13 ho13.at (ht.keep (hA12.trans (hb13.mono hA12.size)))).mono ?_
 rintro r w14 ⟨v14,rfl,ho14,hb14⟩
 obtain ⟨a14,c14,rfl⟩:=ho14.slice
 have hb1214:=hb13.trans (hb14.mono hb13.size)
 have hC14:=hC12.trans (hb1214.mono (by omega))
 clear x0 x1 x2 x3
 obtain ⟨x0,x1,x2,x3,zx14,hk14⟩:=box4 hC14
 replace y0:=cell_keep hb1214 y0
 replace y1:=cell_keep hb1214 y1
 replace y2:=cell_keep hb1214 y2
 replace y3:=cell_keep hb1214 y3
 have zy14:=cell_lt y0
 go_wp2_with fail
 obtain ⟨W14,hW14⟩:∃ W14,W14 = w14.alloc (.cells #[.int .i64 d.kind,.string d.name,.string d.to,.slice a14 d.body.length c14] 54):=⟨_,rfl⟩
 rw [← hW14]
 have hbW:Below w14.heap.size w14 W14:=by rw [hW14];exact alloc_below _ _
 have hCX:=hC14.trans (hbW.mono (by omega))
 replace y0:=cell_keep hbW y0
 replace y1:=cell_keep hbW y1
 replace y2:=cell_keep hbW y2
 replace y3:=cell_keep hbW y3
 have hzX:=hbW.size
 clear hW14 x0 x1 x2 x3
 refine (eqEntry_any _ _ d d _ (ho14.at.keep hbW) (how.at.keep (box4 hCX).2.2.2.2.2) hdb' hdb').mono ?_
 rintro r w15 ⟨rfl,hb15⟩
 rw [show decide (d = d) = true by simp]
 have hC15:=hCX.trans (hb15.mono (by omega))
 obtain ⟨x0,x1,x2,x3,zx15,hk15⟩:=box4 hC15
 replace y0:=cell_keep hb15 y0
 replace y1:=cell_keep hb15 y1
 replace y2:=cell_keep hb15 y2
 replace y3:=cell_keep hb15 y3
 have zy15:=cell_lt y0
 have hb1115:Below w11.heap.size w11 w15:=hb12.trans ((hb1214.trans ((hbW.trans (hb15.mono hzX)).mono hb1214.size)).mono hb12.size)
 have hA15:=hA3.trans (hk15.mono (by omega))
 go_wp2_with fail
 refine (heldEntry_any _ d d.body.length 1 _ (ho11.at.keep hb1115) hdb' (by omega) (by omega)).mono ?_
 rintro r w16 ⟨rfl,hb16⟩
 go_wp2
 go_ret
 exact ⟨rfl,hA15.trans (hb16.mono (by have:=hA15.size;omega))⟩
end Go.Proofs.YtldhpaflmnlcaaaGreatDoor
