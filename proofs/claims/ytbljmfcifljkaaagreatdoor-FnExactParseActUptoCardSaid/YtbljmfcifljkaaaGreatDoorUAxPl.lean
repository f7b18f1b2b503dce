/-
  The reference's plain axioms, walked. Own work; printed by wip/parAxPl.py.
-/
import Derived.Test.YtbljmfcifljkaaaGreatDoorUSym
set_option linter.all false
set_option maxRecDepth 100000
set_option maxHeartbeats 8000000
namespace Go.Proofs.YtbljmfcifljkaaaGreatDoor
open Go.RowKit
set_option maxRecDepth 100000
set_option maxHeartbeats 40000000
def kfA (M S:Int) (f:Nat):Value:=if f=156 then .int .i64 M else .int .i64 S
theorem axPlain_any (p k l M S:Int) (w:World) (hp:2≤p∧p≤97) (hkk:0≤k∧k<p) (hl:0≤l∧l<p) (hM:(k * l) % p=M) (hS:(k+l) % p=S) :
  Calls Tryz.prog 81 #[.int .i64 p,.int .i64 k,.int .i64 l] w (RusSP (((axT k l M S (p - 1)).take 18).map rulOf) w):=by
 have hkl:0≤k * l∧k * l≤9216:=⟨Int.mul_nonneg hkk.1 hl.1,by have:=Int.mul_le_mul (show k≤96 by omega) (show l≤96 by omega) hl.1 (by omega:(0:Int)≤96);omega⟩
 have HM:=Lib.hid hM
 have HS:=Lib.hid hS
 have HK:=Lib.hid (And.intro hp (And.intro hkk (And.intro hl hkl)))
 clear hM hS hp hkk hl hkl
 have HR:=Lib.hid (RuAllO.nil w w.heap.size)
 have hB:=Below.refl w.heap.size w
 go_enter Tryz.func81,Tryz.ntmps81
 go_wp2_with fail
 refine (axOneT 3 _).mono ?_
 rintro e w1 ⟨v,rfl,ho,hb⟩
 obtain ⟨a13,q13,rfl⟩:=ho.slice
 have hk:Below w.heap.size w w1:=hb
 have n13:=ho.mono (B':=w.heap.size) (by have:=hB.size;first|omega|(simp;omega))
 replace HR:=Lib.hid (RuAllO.keep hk HR.out)
 replace hB:=hB.trans (hk.mono hB.size)
 clear ho hb hk
 go_wp2_with fail
 refine (axOneT 4 _).mono ?_
 rintro e w2 ⟨v,rfl,ho,hb⟩
 obtain ⟨a14,q14,rfl⟩:=ho.slice
 have hk:Below w1.heap.size w1 w2:=hb
 have n14:=ho.mono (B':=w.heap.size) (by have:=hB.size;first|omega|(simp;omega))
 replace n13:=n13.keep hk
 replace HR:=Lib.hid (RuAllO.keep hk HR.out)
 replace hB:=hB.trans (hk.mono hB.size)
 clear ho hb hk
 go_wp2_with fail
 refine (axOneT 5 _).mono ?_
 rintro e w3 ⟨v,rfl,ho,hb⟩
 obtain ⟨a15,q15,rfl⟩:=ho.slice
 have hk:Below w2.heap.size w2 w3:=hb
 have n15:=ho.mono (B':=w.heap.size) (by have:=hB.size;first|omega|(simp;omega))
 replace n13:=n13.keep hk
 replace n14:=n14.keep hk
 replace HR:=Lib.hid (RuAllO.keep hk HR.out)
 replace hB:=hB.trans (hk.mono hB.size)
 clear ho hb hk
 go_wp2_with fail
 refine (axOneT 6 _).mono ?_
 rintro e w4 ⟨v,rfl,ho,hb⟩
 obtain ⟨a16,q16,rfl⟩:=ho.slice
 have hk:Below w3.heap.size w3 w4:=hb
 have n16:=ho.mono (B':=w.heap.size) (by have:=hB.size;first|omega|(simp;omega))
 replace n13:=n13.keep hk
 replace n14:=n14.keep hk
 replace n15:=n15.keep hk
 replace HR:=Lib.hid (RuAllO.keep hk HR.out)
 replace hB:=hB.trans (hk.mono hB.size)
 clear ho hb hk
 go_wp2_with fail
 have hk:Below w4.heap.size w4 ((((w4.alloc (.cells #[.slice a13 (lf 3 0).nodes.length q13] 30)).alloc (.cells #[.slice a14 (lf 4 0).nodes.length q14] 30)).alloc (.cells #[.slice a15 (lf 5 0).nodes.length q15] 30)).alloc (.cells #[.slice a16 (lf 6 0).nodes.length q16] 30)):=(((alloc_below _ _).alloc (by simp) _).alloc (by simp;omega) _).alloc (by simp;omega) _
 have c7:((((w4.alloc (.cells #[.slice a13 (lf 3 0).nodes.length q13] 30)).alloc (.cells #[.slice a14 (lf 4 0).nodes.length q14] 30)).alloc (.cells #[.slice a15 (lf 5 0).nodes.length q15] 30)).alloc (.cells #[.slice a16 (lf 6 0).nodes.length q16] 30)).cell? ⟨w4.heap.size,0,none⟩=some (.slice a13 (lf 3 0).nodes.length q13):=by go_simp
 have z7:w4.heap.size<((((w4.alloc (.cells #[.slice a13 (lf 3 0).nodes.length q13] 30)).alloc (.cells #[.slice a14 (lf 4 0).nodes.length q14] 30)).alloc (.cells #[.slice a15 (lf 5 0).nodes.length q15] 30)).alloc (.cells #[.slice a16 (lf 6 0).nodes.length q16] 30)).heap.size:=by simp;try omega
 have c8:((((w4.alloc (.cells #[.slice a13 (lf 3 0).nodes.length q13] 30)).alloc (.cells #[.slice a14 (lf 4 0).nodes.length q14] 30)).alloc (.cells #[.slice a15 (lf 5 0).nodes.length q15] 30)).alloc (.cells #[.slice a16 (lf 6 0).nodes.length q16] 30)).cell? ⟨w4.heap.size+1,0,none⟩=some (.slice a14 (lf 4 0).nodes.length q14):=by go_simp
 have z8:w4.heap.size+1<((((w4.alloc (.cells #[.slice a13 (lf 3 0).nodes.length q13] 30)).alloc (.cells #[.slice a14 (lf 4 0).nodes.length q14] 30)).alloc (.cells #[.slice a15 (lf 5 0).nodes.length q15] 30)).alloc (.cells #[.slice a16 (lf 6 0).nodes.length q16] 30)).heap.size:=by simp;try omega
 have c9:((((w4.alloc (.cells #[.slice a13 (lf 3 0).nodes.length q13] 30)).alloc (.cells #[.slice a14 (lf 4 0).nodes.length q14] 30)).alloc (.cells #[.slice a15 (lf 5 0).nodes.length q15] 30)).alloc (.cells #[.slice a16 (lf 6 0).nodes.length q16] 30)).cell? ⟨w4.heap.size+1+1,0,none⟩=some (.slice a15 (lf 5 0).nodes.length q15):=by go_simp
 have z9:w4.heap.size+1+1<((((w4.alloc (.cells #[.slice a13 (lf 3 0).nodes.length q13] 30)).alloc (.cells #[.slice a14 (lf 4 0).nodes.length q14] 30)).alloc (.cells #[.slice a15 (lf 5 0).nodes.length q15] 30)).alloc (.cells #[.slice a16 (lf 6 0).nodes.length q16] 30)).heap.size:=by simp;try omega
 have c10:((((w4.alloc (.cells #[.slice a13 (lf 3 0).nodes.length q13] 30)).alloc (.cells #[.slice a14 (lf 4 0).nodes.length q14] 30)).alloc (.cells #[.slice a15 (lf 5 0).nodes.length q15] 30)).alloc (.cells #[.slice a16 (lf 6 0).nodes.length q16] 30)).cell? ⟨w4.heap.size+1+1+1,0,none⟩=some (.slice a16 (lf 6 0).nodes.length q16):=by go_simp
 have z10:w4.heap.size+1+1+1<((((w4.alloc (.cells #[.slice a13 (lf 3 0).nodes.length q13] 30)).alloc (.cells #[.slice a14 (lf 4 0).nodes.length q14] 30)).alloc (.cells #[.slice a15 (lf 5 0).nodes.length q15] 30)).alloc (.cells #[.slice a16 (lf 6 0).nodes.length q16] 30)).heap.size:=by simp;try omega
 replace n13:=n13.keep hk
 replace n14:=n14.keep hk
 replace n15:=n15.keep hk
 replace n16:=n16.keep hk
 replace HR:=Lib.hid (RuAllO.keep hk HR.out)
 replace hB:=hB.trans (hk.mono hB.size)
 clear hk
 generalize ((((w4.alloc (.cells #[.slice a13 (lf 3 0).nodes.length q13] 30)).alloc (.cells #[.slice a14 (lf 4 0).nodes.length q14] 30)).alloc (.cells #[.slice a15 (lf 5 0).nodes.length q15] 30)).alloc (.cells #[.slice a16 (lf 6 0).nodes.length q16] 30))=w5 at *
 generalize w4.heap.size+1+1+1=b10 at *
 generalize w4.heap.size+1+1=b9 at *
 generalize w4.heap.size+1=b8 at *
 generalize w4.heap.size=b7 at *
 refine (axOneT 2 _).mono ?_
 rintro e w6 ⟨v,rfl,ho,hb⟩
 obtain ⟨a17,q17,rfl⟩:=ho.slice
 have hk:Below w5.heap.size w5 w6:=hb
 have n17:=ho.mono (B':=w.heap.size) (by have:=hB.size;first|omega|(simp;omega))
 replace c7:=cell_keep hk c7
 replace z7:=cell_lt c7
 replace c8:=cell_keep hk c8
 replace z8:=cell_lt c8
 replace c9:=cell_keep hk c9
 replace z9:=cell_lt c9
 replace c10:=cell_keep hk c10
 replace z10:=cell_lt c10
 replace n13:=n13.keep hk
 replace n14:=n14.keep hk
 replace n15:=n15.keep hk
 replace n16:=n16.keep hk
 replace HR:=Lib.hid (RuAllO.keep hk HR.out)
 replace hB:=hB.trans (hk.mono hB.size)
 clear ho hb hk
 go_wp2_with fail
 refine (tmIdT 1 _).mono ?_
 rintro e w7 ⟨v,rfl,ho,hb⟩
 obtain ⟨a18,q18,rfl⟩:=ho.slice
 have hk:Below w6.heap.size w6 w7:=hb
 have n18:=ho.mono (B':=w.heap.size) (by have:=hB.size;first|omega|(simp;omega))
 replace c7:=cell_keep hk c7
 replace z7:=cell_lt c7
 replace c8:=cell_keep hk c8
 replace z8:=cell_lt c8
 replace c9:=cell_keep hk c9
 replace z9:=cell_lt c9
 replace c10:=cell_keep hk c10
 replace z10:=cell_lt c10
 replace n13:=n13.keep hk
 replace n14:=n14.keep hk
 replace n15:=n15.keep hk
 replace n16:=n16.keep hk
 replace n17:=n17.keep hk
 replace HR:=Lib.hid (RuAllO.keep hk HR.out)
 replace hB:=hB.trans (hk.mono hB.size)
 clear ho hb hk
 go_wp2_with fail
 have hk:Below w7.heap.size w7 ((w7.alloc (.cells #[.slice a17 (lf 2 0).nodes.length q17] 30)).alloc (.cells #[.slice a18 (lf 1 1).nodes.length q18] 30)):=(alloc_below _ _).alloc (by simp) _
 have c11:((w7.alloc (.cells #[.slice a17 (lf 2 0).nodes.length q17] 30)).alloc (.cells #[.slice a18 (lf 1 1).nodes.length q18] 30)).cell? ⟨w7.heap.size,0,none⟩=some (.slice a17 (lf 2 0).nodes.length q17):=by go_simp
 have z11:w7.heap.size<((w7.alloc (.cells #[.slice a17 (lf 2 0).nodes.length q17] 30)).alloc (.cells #[.slice a18 (lf 1 1).nodes.length q18] 30)).heap.size:=by simp;try omega
 have c12:((w7.alloc (.cells #[.slice a17 (lf 2 0).nodes.length q17] 30)).alloc (.cells #[.slice a18 (lf 1 1).nodes.length q18] 30)).cell? ⟨w7.heap.size+1,0,none⟩=some (.slice a18 (lf 1 1).nodes.length q18):=by go_simp
 have z12:w7.heap.size+1<((w7.alloc (.cells #[.slice a17 (lf 2 0).nodes.length q17] 30)).alloc (.cells #[.slice a18 (lf 1 1).nodes.length q18] 30)).heap.size:=by simp;try omega
 replace c7:=cell_keep hk c7
 replace c8:=cell_keep hk c8
 replace c9:=cell_keep hk c9
 replace c10:=cell_keep hk c10
 replace z7:=cell_lt c7
 replace z8:=cell_lt c8
 replace z9:=cell_lt c9
 replace z10:=cell_lt c10
 replace n13:=n13.keep hk
 replace n14:=n14.keep hk
 replace n15:=n15.keep hk
 replace n16:=n16.keep hk
 replace n17:=n17.keep hk
 replace n18:=n18.keep hk
 replace HR:=Lib.hid (RuAllO.keep hk HR.out)
 replace hB:=hB.trans (hk.mono hB.size)
 clear hk
 generalize ((w7.alloc (.cells #[.slice a17 (lf 2 0).nodes.length q17] 30)).alloc (.cells #[.slice a18 (lf 1 1).nodes.length q18] 30))=w8 at *
 generalize w7.heap.size+1=b12 at *
 generalize w7.heap.size=b11 at *
 refine region_acts4 (C:=Exc NoT _) 1 (List.range 187) (by kernel_rfl) (by kernel_rfl) (Exc.grows _ _) (Exc.refl _ _) ?_
 rw [show List.range 187=List.range 185 ++ [185,186] by rfl]
 have hk:Below w8.heap.size w8 w8.drew:=(Below.refl _ _).drew
 replace n13:=n13.keep hk
 replace n14:=n14.keep hk
 replace n15:=n15.keep hk
 replace n16:=n16.keep hk
 replace n17:=n17.keep hk
 replace n18:=n18.keep hk
 refine sym_end (T:=NoT) (kf:=kfA M S) (B:=w.heap.size) (List.range 185) [(7,.box (lf 3 0)),(8,.box (lf 4 0)),(9,.box (lf 5 0)),(10,.box (lf 6 0)),(11,.box (lf 2 0)),(12,.box (lf 1 1)),(0,.val (.int .i64 p)),(1,.val (.int .i64 k)),(2,.val (.int .i64 l))] [.fn 157 #[.int .i64 p,.int .i64 k,.int .i64 l],.fn 156 #[.int .i64 p,.int .i64 k,.int .i64 l]] ((List.zip [33,42,48,63,72,78,98,107,116,122,125,131,143,159,174,189,196,203] (((axT k l M S (p - 1)).take 18).map rulOf)).map fun x=>(x.1,.ru x.2)) (by kernel_rfl) (by kernel_rfl) (by kernel_rfl) _ _ _ rfl ?hst (Exc.refl _ _) (Below.refl _ _) (by have:=hB.size;simpa using this) ?hob ?_
 case hst =>
  intro s x hx
  simp only [List.lookup] at hx
  repeat (split at hx;(rename_i hs;have hs:=eq_of_beq hs;subst hs;cases hx;first|rfl|exact ⟨_,_,_,_,rfl,id,c7,n13⟩|exact ⟨_,_,_,_,rfl,id,c7,n13⟩|exact ⟨_,_,_,_,rfl,id,c8,n14⟩|exact ⟨_,_,_,_,rfl,id,c9,n15⟩|exact ⟨_,_,_,_,rfl,id,c10,n16⟩|exact ⟨_,_,_,_,rfl,id,c11,n17⟩|exact ⟨_,_,_,_,rfl,id,c12,n18⟩))
  cases hx
 case hob =>
  intro t ht
  simp only [List.mem_cons,List.not_mem_nil,or_false] at ht
  rcases ht with rfl|rfl
  ·intro w9
   refine (fdAdd_any p k l w9 (by have:=HK.out;omega) (by have:=HK.out;omega) (by have:=HK.out;omega) (by have:=HK.out;omega)).mono ?_
   rintro e w10 ⟨rfl,rfl⟩
   exact ⟨by rw [HS.out];rfl,Below.refl _ _⟩
  ·intro w9
   refine (fdMul_any p k l w9 (by have:=HK.out;omega) (by have:=HK.out;omega) (by have:=HK.out;omega) (by have:=HK.out;omega)).mono ?_
   rintro e w10 ⟨rfl,rfl⟩
   exact ⟨by rw [HM.out];rfl,Below.refl _ _⟩
 intro A W bs hsz hdf hC hbW hall
 have hbw:=hB.trans (hk.mono hB.size)
 have hsz2:A.tmps.size=205:=hsz
 have hdf2:A.defers=[]:=hdf
 clear hdf
 clear hsz
 obtain ⟨al0,nl0,cl0,ar0,nr0,cr0,e33,gl0,gr0⟩:=hall (33,.ru (rulOf ((axT k l M S (p - 1))[0]'(by show _<27;omega)))) (List.mem_of_getElem? (i:=0) rfl)
 rw [ev_tmp] at e33
 change A.tmps[33]?.getD undef=_ at e33
 obtain ⟨al1,nl1,cl1,ar1,nr1,cr1,e42,gl1,gr1⟩:=hall (42,.ru (rulOf ((axT k l M S (p - 1))[1]'(by show _<27;omega)))) (List.mem_of_getElem? (i:=1) rfl)
 rw [ev_tmp] at e42
 change A.tmps[42]?.getD undef=_ at e42
 obtain ⟨al2,nl2,cl2,ar2,nr2,cr2,e48,gl2,gr2⟩:=hall (48,.ru (rulOf ((axT k l M S (p - 1))[2]'(by show _<27;omega)))) (List.mem_of_getElem? (i:=2) rfl)
 rw [ev_tmp] at e48
 change A.tmps[48]?.getD undef=_ at e48
 obtain ⟨al3,nl3,cl3,ar3,nr3,cr3,e63,gl3,gr3⟩:=hall (63,.ru (rulOf ((axT k l M S (p - 1))[3]'(by show _<27;omega)))) (List.mem_of_getElem? (i:=3) rfl)
 rw [ev_tmp] at e63
 change A.tmps[63]?.getD undef=_ at e63
 obtain ⟨al4,nl4,cl4,ar4,nr4,cr4,e72,gl4,gr4⟩:=hall (72,.ru (rulOf ((axT k l M S (p - 1))[4]'(by show _<27;omega)))) (List.mem_of_getElem? (i:=4) rfl)
 rw [ev_tmp] at e72
 change A.tmps[72]?.getD undef=_ at e72
 obtain ⟨al5,nl5,cl5,ar5,nr5,cr5,e78,gl5,gr5⟩:=hall (78,.ru (rulOf ((axT k l M S (p - 1))[5]'(by show _<27;omega)))) (List.mem_of_getElem? (i:=5) rfl)
 rw [ev_tmp] at e78
 change A.tmps[78]?.getD undef=_ at e78
 obtain ⟨al6,nl6,cl6,ar6,nr6,cr6,e98,gl6,gr6⟩:=hall (98,.ru (rulOf ((axT k l M S (p - 1))[6]'(by show _<27;omega)))) (List.mem_of_getElem? (i:=6) rfl)
 rw [ev_tmp] at e98
 change A.tmps[98]?.getD undef=_ at e98
 obtain ⟨al7,nl7,cl7,ar7,nr7,cr7,e107,gl7,gr7⟩:=hall (107,.ru (rulOf ((axT k l M S (p - 1))[7]'(by show _<27;omega)))) (List.mem_of_getElem? (i:=7) rfl)
 rw [ev_tmp] at e107
 change A.tmps[107]?.getD undef=_ at e107
 obtain ⟨al8,nl8,cl8,ar8,nr8,cr8,e116,gl8,gr8⟩:=hall (116,.ru (rulOf ((axT k l M S (p - 1))[8]'(by show _<27;omega)))) (List.mem_of_getElem? (i:=8) rfl)
 rw [ev_tmp] at e116
 change A.tmps[116]?.getD undef=_ at e116
 obtain ⟨al9,nl9,cl9,ar9,nr9,cr9,e122,gl9,gr9⟩:=hall (122,.ru (rulOf ((axT k l M S (p - 1))[9]'(by show _<27;omega)))) (List.mem_of_getElem? (i:=9) rfl)
 rw [ev_tmp] at e122
 change A.tmps[122]?.getD undef=_ at e122
 obtain ⟨al10,nl10,cl10,ar10,nr10,cr10,e125,gl10,gr10⟩:=hall (125,.ru (rulOf ((axT k l M S (p - 1))[10]'(by show _<27;omega)))) (List.mem_of_getElem? (i:=10) rfl)
 rw [ev_tmp] at e125
 change A.tmps[125]?.getD undef=_ at e125
 obtain ⟨al11,nl11,cl11,ar11,nr11,cr11,e131,gl11,gr11⟩:=hall (131,.ru (rulOf ((axT k l M S (p - 1))[11]'(by show _<27;omega)))) (List.mem_of_getElem? (i:=11) rfl)
 rw [ev_tmp] at e131
 change A.tmps[131]?.getD undef=_ at e131
 obtain ⟨al12,nl12,cl12,ar12,nr12,cr12,e143,gl12,gr12⟩:=hall (143,.ru (rulOf ((axT k l M S (p - 1))[12]'(by show _<27;omega)))) (List.mem_of_getElem? (i:=12) rfl)
 rw [ev_tmp] at e143
 change A.tmps[143]?.getD undef=_ at e143
 obtain ⟨al13,nl13,cl13,ar13,nr13,cr13,e159,gl13,gr13⟩:=hall (159,.ru (rulOf ((axT k l M S (p - 1))[13]'(by show _<27;omega)))) (List.mem_of_getElem? (i:=13) rfl)
 rw [ev_tmp] at e159
 change A.tmps[159]?.getD undef=_ at e159
 obtain ⟨al14,nl14,cl14,ar14,nr14,cr14,e174,gl14,gr14⟩:=hall (174,.ru (rulOf ((axT k l M S (p - 1))[14]'(by show _<27;omega)))) (List.mem_of_getElem? (i:=14) rfl)
 rw [ev_tmp] at e174
 change A.tmps[174]?.getD undef=_ at e174
 obtain ⟨al15,nl15,cl15,ar15,nr15,cr15,e189,gl15,gr15⟩:=hall (189,.ru (rulOf ((axT k l M S (p - 1))[15]'(by show _<27;omega)))) (List.mem_of_getElem? (i:=15) rfl)
 rw [ev_tmp] at e189
 change A.tmps[189]?.getD undef=_ at e189
 obtain ⟨al16,nl16,cl16,ar16,nr16,cr16,e196,gl16,gr16⟩:=hall (196,.ru (rulOf ((axT k l M S (p - 1))[16]'(by show _<27;omega)))) (List.mem_of_getElem? (i:=16) rfl)
 rw [ev_tmp] at e196
 change A.tmps[196]?.getD undef=_ at e196
 obtain ⟨al17,nl17,cl17,ar17,nr17,cr17,e203,gl17,gr17⟩:=hall (203,.ru (rulOf ((axT k l M S (p - 1))[17]'(by show _<27;omega)))) (List.mem_of_getElem? (i:=17) rfl)
 rw [ev_tmp] at e203
 change A.tmps[203]?.getD undef=_ at e203
 obtain ⟨xs,hxs⟩:∃ xs:List RuV,xs=[(rulOf ((axT k l M S (p - 1))[0]'(by show _<27;omega)),.slice al0 nl0 cl0,.slice ar0 nr0 cr0),(rulOf ((axT k l M S (p - 1))[1]'(by show _<27;omega)),.slice al1 nl1 cl1,.slice ar1 nr1 cr1),(rulOf ((axT k l M S (p - 1))[2]'(by show _<27;omega)),.slice al2 nl2 cl2,.slice ar2 nr2 cr2),(rulOf ((axT k l M S (p - 1))[3]'(by show _<27;omega)),.slice al3 nl3 cl3,.slice ar3 nr3 cr3),(rulOf ((axT k l M S (p - 1))[4]'(by show _<27;omega)),.slice al4 nl4 cl4,.slice ar4 nr4 cr4),(rulOf ((axT k l M S (p - 1))[5]'(by show _<27;omega)),.slice al5 nl5 cl5,.slice ar5 nr5 cr5),(rulOf ((axT k l M S (p - 1))[6]'(by show _<27;omega)),.slice al6 nl6 cl6,.slice ar6 nr6 cr6),(rulOf ((axT k l M S (p - 1))[7]'(by show _<27;omega)),.slice al7 nl7 cl7,.slice ar7 nr7 cr7),(rulOf ((axT k l M S (p - 1))[8]'(by show _<27;omega)),.slice al8 nl8 cl8,.slice ar8 nr8 cr8),(rulOf ((axT k l M S (p - 1))[9]'(by show _<27;omega)),.slice al9 nl9 cl9,.slice ar9 nr9 cr9),(rulOf ((axT k l M S (p - 1))[10]'(by show _<27;omega)),.slice al10 nl10 cl10,.slice ar10 nr10 cr10),(rulOf ((axT k l M S (p - 1))[11]'(by show _<27;omega)),.slice al11 nl11 cl11,.slice ar11 nr11 cr11),(rulOf ((axT k l M S (p - 1))[12]'(by show _<27;omega)),.slice al12 nl12 cl12,.slice ar12 nr12 cr12),(rulOf ((axT k l M S (p - 1))[13]'(by show _<27;omega)),.slice al13 nl13 cl13,.slice ar13 nr13 cr13),(rulOf ((axT k l M S (p - 1))[14]'(by show _<27;omega)),.slice al14 nl14 cl14,.slice ar14 nr14 cr14),(rulOf ((axT k l M S (p - 1))[15]'(by show _<27;omega)),.slice al15 nl15 cl15,.slice ar15 nr15 cr15),(rulOf ((axT k l M S (p - 1))[16]'(by show _<27;omega)),.slice al16 nl16 cl16,.slice ar16 nr16 cr16),(rulOf ((axT k l M S (p - 1))[17]'(by show _<27;omega)),.slice al17 nl17 cl17,.slice ar17 nr17 cr17)]:=⟨_,rfl⟩
 have hall2:RuAllO W w.heap.size xs:=by
  rw [hxs]
  intro x hx
  simp only [List.mem_cons,List.not_mem_nil,or_false] at hx
  rcases hx with rfl|rfl|rfl|rfl|rfl|rfl|rfl|rfl|rfl|rfl|rfl|rfl|rfl|rfl|rfl|rfl|rfl|rfl
  ·exact ⟨gl0,gr0⟩
  ·exact ⟨gl1,gr1⟩
  ·exact ⟨gl2,gr2⟩
  ·exact ⟨gl3,gr3⟩
  ·exact ⟨gl4,gr4⟩
  ·exact ⟨gl5,gr5⟩
  ·exact ⟨gl6,gr6⟩
  ·exact ⟨gl7,gr7⟩
  ·exact ⟨gl8,gr8⟩
  ·exact ⟨gl9,gr9⟩
  ·exact ⟨gl10,gr10⟩
  ·exact ⟨gl11,gr11⟩
  ·exact ⟨gl12,gr12⟩
  ·exact ⟨gl13,gr13⟩
  ·exact ⟨gl14,gr14⟩
  ·exact ⟨gl15,gr15⟩
  ·exact ⟨gl16,gr16⟩
  ·exact ⟨gl17,gr17⟩
 have hfst:xs.map Prod.fst=((axT k l M S (p - 1)).take 18).map rulOf:=by rw [hxs];rfl
 clear hall
 clear c7 c8 c9 c10 c11 c12 z7 z8 z9 z10 z11 z12 n13 n14 n15 n16 n17 n18 HR
 have HX:=Lib.hid (And.intro hall2 hfst)
 have HSZ:=Lib.hid hsz2
 clear hall2 hfst hsz2
 refine x_make rfl rfl rfl (Exc.grows _ _) hC (fun b=>.slice (some ⟨b,0,none⟩) 18 18) (fun K hK=>?_)
 refine ⟨.cells (xs.flatMap ruCells).toArray 32,fun w' hw'=>?_,fun b204 w' hw' hb hbo hN hnb=>?_⟩
 ·rw [hxs]
  go_simp
  first
   | done
   | rfl
 refine hK _ _ _ ?_
 clear hK K
 generalize hA2:Act.put A _ _=A2
 have s2:A2.tmps.size=205:=by rw [← hA2];simp [Act.put,HSZ.out]
 have e204:A2.tmps[204]?.getD undef=.slice (some ⟨b204,0,none⟩) 18 18:=by rw [← hA2];simp [Act.put,HSZ.out]
 have d2:A2.defers=[]:=by rw [← hA2];simp [Act.put,hdf2]
 clear hA2 hdf2
 have HS2:=Lib.hid s2
 clear s2
 refine x_still rfl rfl rfl (fun K hK=>?_)
 refine ⟨.slice (some ⟨b204,0,none⟩) 18 18,fun w' hw'=>?_,?_⟩
 ·go_simp
 refine hK _ _ _ ?_
 clear hK K
 generalize hA3:Act.put A2 _ _=A3
 have e6:A3.tmps[6]?.getD undef=.slice (some ⟨b204,0,none⟩) 18 18:=by rw [← hA3];simp [Act.put,HS2.out]
 have d3:A3.defers=[]:=by rw [← hA3];simp [Act.put,d2]
 clear hA3 d2
 refine x_nil ?_
 go_wp2
 refine bodyPost_ret (v:=.slice (some ⟨b204,0,none⟩) 18 18) (by simp [results,Tryz.results81,go_sem,e6]) d3 ⟨_,xs,rfl,HX.out.2,?_,hbw.trans ((hbW.trans (hb.mono hbW.size)).mono (by have:=hbw.size;omega))⟩
 have hlx:xs.length=18:=by have:=congrArg List.length HX.out.2;rw [List.length_map] at this;exact this
 exact ruS_made hbo (by have h1:=hbw.size;simp only [World.size_drew] at h1 hN;omega) hlx (by omega) (HX.out.1.keep hb)
end Go.Proofs.YtbljmfcifljkaaaGreatDoor
