/-
  The texts of acts, the reference's. Own work.
-/
import Derived.Test.YtbljmfcifljkaaaGreatDoorVAT
import Derived.Deep.RegionWith
import Derived.Test.YtbljmfcifljkaaaGreatDoorVAxRu
import Derived.Test.YtbljmfcifljkaaaGreatDoorVSX
set_option linter.all false
set_option maxRecDepth 100000
set_option maxHeartbeats 8000000
namespace Go.Proofs.YtbljmfcifljkaaaGreatDoor
open Go.RowKit
set_option maxRecDepth 100000
set_option maxHeartbeats 4000000
theorem snWords_any (w:World):Calls Tryz.prog 120 #[] w fun e w'=>∃ n:Nat,e=.returned (.slice (some ⟨w.heap.size,0,none⟩) n n)∧n=7∧(∀ k,k<7 → w'.cell? ⟨w.heap.size,k,none⟩=some (.string (acWord k)))∧Below w.heap.size w w'∧w.heap.size<w'.heap.size:=by
 go_enter Tryz.func120,Tryz.ntmps120
 go_wp2
 go_ret
 refine ⟨7,rfl,rfl,fun k hk=>?_,alloc_below _ _,by simp⟩
 match k,hk with
 | 0,_=>exact (Bk.new w _ _).cell.1 0
 | 1,_=>exact (Bk.new w _ _).cell.1 1
 | 2,_=>exact (Bk.new w _ _).cell.1 2
 | 3,_=>exact (Bk.new w _ _).cell.1 3
 | 4,_=>exact (Bk.new w _ _).cell.1 4
 | 5,_=>exact (Bk.new w _ _).cell.1 5
 | 6,_=>exact (Bk.new w _ _).cell.1 6
theorem l1NumT_any (a:Int) (w:World) (h:0≤a∧a≤999):Calls Tryz.prog 121 #[.int .i64 a] w fun e w'=>e=.returned (.string (numT a))∧Below w.heap.size w w':=by
 obtain ⟨n,rfl⟩:∃ n:Nat,a=n:=⟨a.toNat,by omega⟩
 exact l1Num_any n w (by omega)
theorem RusSP.q {L:List Rul} {w w':World} {e:Ending} (h:RusSP L w e w'):RusQ L w e w':=by
 obtain ⟨v,xs,h1,h2,h3,h4⟩:=h
 refine ⟨v,h1,?_,h4⟩
 rw [← h2];exact h3.at
theorem snText_any (s:SnI) (vp ne ni no vf ge gi go:Value) (m:Nat) (r a:Int) (w:World) (h:SnR w vp ne ni no vf ge gi go s) (htw:twoB s.p s.k s.l=true) (hm:1≤m∧m≤6) :
  Calls Tryz.prog 57 #[snV s vp ne ni no vf ge gi go,acV ⟨m,r,a⟩] w (AcTP (acText (axNs s) ⟨m,r,a⟩) w):=by
 obtain ⟨⟨a1,c1,rfl⟩,⟨⟨a2,c2,rfl⟩,⟨a3,c3,rfl⟩,a4,c4,rfl⟩,⟨a5,c5,rfl⟩,⟨a6,c6,rfl⟩,⟨a7,c7,rfl⟩,a8,c8,rfl⟩:=h.slices
 unfold snV acV
 have hA1:=alloc_below w (.cells #[.int .i64 s.p,.int .i64 s.k,.int .i64 s.l,.slice a1 s.past.length c1,.int .i64 s.now.wires,.slice a2 s.now.edges.length c2,.slice a3 s.now.ins.length c3,.slice a4 s.now.outs.length c4,.slice a5 s.future.length c5,.int .i64 s.goal.wires,.slice a6 s.goal.edges.length c6,.slice a7 s.goal.ins.length c7,.slice a8 s.goal.outs.length c8] 55)
 have hA2:=alloc_below (w.alloc (.cells #[.int .i64 s.p,.int .i64 s.k,.int .i64 s.l,.slice a1 s.past.length c1,.int .i64 s.now.wires,.slice a2 s.now.edges.length c2,.slice a3 s.now.ins.length c3,.slice a4 s.now.outs.length c4,.slice a5 s.future.length c5,.int .i64 s.goal.wires,.slice a6 s.goal.edges.length c6,.slice a7 s.goal.ins.length c7,.slice a8 s.goal.outs.length c8] 55)) (.cells #[.int .i64 m,.int .i64 r,.int .i64 a] 57)
 have hB:=hA1.trans (hA2.mono hA1.size)
 have kS:=(Bk.new w 55 #[.int .i64 s.p,.int .i64 s.k,.int .i64 s.l,.slice a1 s.past.length c1,.int .i64 s.now.wires,.slice a2 s.now.edges.length c2,.slice a3 s.now.ins.length c3,.slice a4 s.now.outs.length c4,.slice a5 s.future.length c5,.int .i64 s.goal.wires,.slice a6 s.goal.edges.length c6,.slice a7 s.goal.ins.length c7,.slice a8 s.goal.outs.length c8]).keep hA2
 have kX:=Bk.new (w.alloc (.cells #[.int .i64 s.p,.int .i64 s.k,.int .i64 s.l,.slice a1 s.past.length c1,.int .i64 s.now.wires,.slice a2 s.now.edges.length c2,.slice a3 s.now.ins.length c3,.slice a4 s.now.outs.length c4,.slice a5 s.future.length c5,.int .i64 s.goal.wires,.slice a6 s.goal.edges.length c6,.slice a7 s.goal.ins.length c7,.slice a8 s.goal.outs.length c8] 55)) 57 #[.int .i64 m,.int .i64 r,.int .i64 a]
 simp only [World.size_alloc] at kX
 have hz:((w.alloc (.cells #[.int .i64 s.p,.int .i64 s.k,.int .i64 s.l,.slice a1 s.past.length c1,.int .i64 s.now.wires,.slice a2 s.now.edges.length c2,.slice a3 s.now.ins.length c3,.slice a4 s.now.outs.length c4,.slice a5 s.future.length c5,.int .i64 s.goal.wires,.slice a6 s.goal.edges.length c6,.slice a7 s.goal.ins.length c7,.slice a8 s.goal.outs.length c8] 55)).alloc (.cells #[.int .i64 m,.int .i64 r,.int .i64 a] 57)).heap.size=w.heap.size+2:=by simp
 clear hA1 hA2 h
 have hm7:m<7:=by omega
 have hm0:(0:Int)≤m:=by omega
 have hk6:inB m 1 6=true:=by simp [inB];omega
 have HK:=Lib.hid hk6
 obtain ⟨t1,t2,t3⟩:=twoB_in htw
 have hax:=fun (u:World)=>(axRules_any s.p s.k s.l u t1 t2 t3).mono (R':=RusQ (axL s.p s.k s.l) u) fun _ _ hq=>hq.q
 have hlm:=(axL_small t1 t2 t3).1
 have hnm:=ax_names (p:=s.p) (k:=s.k) (l:=s.l)
 have htl:=fun (hm2:(m:Int)≤2)=>acText_long (ns:=axNs s) (r:=r) (a:=a) hk6 hm2
 have hts:=fun (hm2:¬ (m:Int)≤2)=>acText_short (ns:=axNs s) (r:=r) (a:=a) hk6 hm2
 simp only [Int.toNat_natCast] at htl hts
 have hws:=acWord_size m
 generalize acText (axNs s) ⟨m,r,a⟩=TX at *
 unfold axNs at htl
 generalize axL s.p s.k s.l=L at *
 rw [List.length_map] at htl
 clear t1 t2 t3 htw
 have HAX:=Lib.hid hax
 have HNM:=Lib.hid hnm
 have HTL:=Lib.hid htl
 have HTS:=Lib.hid hts
 have hw1:IntKind.i64.wrap ((L.length:Int) - 1)=(L.length:Int) - 1:=IntWalk.i64_in _ (by omega)
 obtain ⟨b1,hb1⟩:∃ b,inB r 0 ((L.length:Int) - 1)=b:=⟨_,rfl⟩
 obtain ⟨b2,hb2⟩:∃ b,inB a 0 999=b:=⟨_,rfl⟩
 obtain ⟨d1,hd1⟩:∃ b,(r == 0)=b:=⟨_,rfl⟩
 obtain ⟨d2,hd2⟩:∃ b,(a == 0)=b:=⟨_,rfl⟩
 have hde1:decide (r=0)=d1:=by rw [← hd1,Bool.eq_iff_iff];simp
 have hde2:decide (a=0)=d2:=by rw [← hd2,Bool.eq_iff_iff];simp
 have HB1:=Lib.hid hb1
 have HB2:=Lib.hid hb2
 have HD:=Lib.hid (And.intro hde1 hde2)
 have HD1:=Lib.hid hd1
 have HD2:=Lib.hid hd2
 clear hax hnm htl hts hb1 hb2 hde1 hde2 hd1 hd2 hk6
 go_enter Tryz.func57,Tryz.ntmps57
 obtain ⟨iX,-,zX⟩:=kX.cell
 obtain ⟨iS,-,zS⟩:=kS.cell
 go_wp2_with (go_at_call 80;refine (l1In_any _ _ _ _).mono ?_;rintro q w1 ⟨rfl,rfl⟩;rw [HK.out])
 generalize ((w.alloc (.cells #[.int .i64 s.p,.int .i64 s.k,.int .i64 s.l,.slice a1 s.past.length c1,.int .i64 s.now.wires,.slice a2 s.now.edges.length c2,.slice a3 s.now.ins.length c3,.slice a4 s.now.outs.length c4,.slice a5 s.future.length c5,.int .i64 s.goal.wires,.slice a6 s.goal.edges.length c6,.slice a7 s.goal.ins.length c7,.slice a8 s.goal.outs.length c8] 55)).alloc (.cells #[.int .i64 m,.int .i64 r,.int .i64 a] 57))=u0 at *
 clear iX zX
 obtain ⟨iX,-,zX⟩:=kX.cell
 have x0:=iX 0
 simp at x0
 clear iX iS hz
 go_region_with (go_at_call 120;refine (snWords_any _).mono ?_;rintro e w3 ⟨n3,rfl,hn7,hcl,hb3,hz3⟩;have hkn:m<n3:=(by omega);have hc0:=hcl m hm7;clear hcl hn7;obtain ⟨hc3,hf3,hs3⟩:=bcell hb3;simp only [World.size_alloc,World.size_drew] at hc0 hz3 hs3 hb3 hc3 hf3)
 all_goals
  have hb03:Below u0.heap.size u0 w3:=(Below.refl _ _).drew.trans hb3
  replace kX:=kX.keep hb03
  replace kS:=kS.keep hb03
  have hB3:=hB.trans (hb03.mono hB.size)
  clear x0 zX zS hc0 hc3 hf3 hs3 hz3 hb3 hb03 hB
  generalize acWord m=W at *
  generalize u0.heap.size=ub at *
  obtain ⟨iX,-,zX⟩:=kX.cell
  have x0:=iX 0
  have x1:=iX 1
  have x2:=iX 2
  simp at x0 x1 x2
  clear iX
  by_cases h2:2<m
  ·have hts:=HTS.out (by omega)
   have hgt:(2:Int)<m:=by omega
   rw [HD.out.1,HD.out.2] at hts
   have HS:=Lib.hid hts
   have e1:=HD1.out
   have e2:=HD2.out
   clear hts kS h2
   cases d1
   ·go_wp2_with fail
    go_quiet (fail)
    go_wp2
    go_ret2
    exact ⟨_,by rw [HS.out];rfl,(fun u hu=>by rw [HS.out] at hu;cases hu),below_drewN hB3 _⟩
   ·cases d2
    ·go_wp2_with fail
     go_quiet (fail)
     go_wp2
     go_ret2
     exact ⟨_,by rw [HS.out];rfl,(fun u hu=>by rw [HS.out] at hu;cases hu),below_drewN hB3 _⟩
    ·go_wp2_with fail
     go_quiet (fail)
     go_wp2
     go_ret2
     exact ⟨_,by rw [HS.out];rfl,(fun u hu=>by rw [HS.out] at hu;injection hu),below_drewN hB3 _⟩
  ·have hng:¬ (2:Int)<m:=by omega
   have htx:=HTL.out (by omega)
   have HTX:=Lib.hid htx
   clear htx h2
   obtain ⟨iS,-,zS⟩:=kS.cell
   go_wp2_with fail
   refine (HAX.out _).mono ?_
   rintro q w4 ⟨v,rfl,⟨pa,cp,rfl,hcp,hrow⟩,hb4⟩
   clear x0 x1 x2 zX iS zS kS
   replace kX:=kX.keep hb4
   have hB4:=hB3.trans (hb4.mono hB3.size)
   clear hb4 hB3
   obtain ⟨iX,-,zX⟩:=kX.cell
   have x1:=iX 1
   have x2:=iX 2
   simp at x1 x2
   clear iX
   cases b1
   ·go_wp2_with (go_at_call 80;refine (l1In_any _ _ _ _).mono ?_;rintro q w5 ⟨rfl,rfl⟩;rw [HB1.out])
    go_ret2
    exact ⟨_,by rw [HTX.out,HB1.out];rfl,(fun u hu=>by rw [HTX.out,HB1.out] at hu;cases hu),hB4⟩
   ·cases b2
    ·go_wp2_with (go_at_call 80;refine (l1In_any _ _ _ _).mono ?_;rintro q w5 ⟨rfl,rfl⟩;first|rw [HB1.out]|rw [HB2.out])
     go_ret2
     exact ⟨_,by rw [HTX.out,HB1.out,HB2.out];rfl,(fun u hu=>by rw [HTX.out,HB1.out,HB2.out] at hu;cases hu),hB4⟩
    ·have hr:0≤r∧r≤(L.length:Int) - 1:=by simpa [inB] using HB1.out
     have ha:0≤a∧a≤999:=by simpa [inB] using HB2.out
     obtain ⟨i,rfl⟩:∃ i:Nat,r=i:=⟨r.toNat,by omega⟩
     have hi:i<L.length:=by omega
     obtain ⟨b,o,rfl,_,hru⟩:=hrow i hi
     have cn:=hru.1
     have bz:=cell_lt cn
     have hnn:=(HNM.out _ (List.mem_map.2 ⟨_,List.getElem_mem hi,rfl⟩)).2
     have hgd:=name_at hi
     obtain ⟨N,hN⟩:∃ N,L[i].name=N:=⟨_,rfl⟩
     rw [hN] at cn hnn hgd
     have HGD:=Lib.hid hgd
     have hsa:=(num_rd ha.1 ha.2).2.2.2
     have z1:¬ 9223372036854775807<W.size+1:=by omega
     have z2:¬ 9223372036854775807<W.size+1+N.size:=by omega
     have z3:¬ 9223372036854775807<W.size+1+N.size+1:=by omega
     have z4:¬ 9223372036854775807<W.size+1+N.size+1+(numT a).size:=by omega
     have HA:=Lib.hid ha
     clear hrow hru hN hgd hr ha
     go_wp2_with (go_at_call 80;refine (l1In_any _ _ _ _).mono ?_;rintro q w5 ⟨rfl,rfl⟩;first|rw [HB1.out]|rw [HB2.out])
     refine region_grow (C:=Grew w4.drew) 14 (by kernel_rfl) (by kernel_rfl) (by kernel_rfl) (Grew.refl _) ?_
     simp only [List.take_succ_cons,List.take_zero,List.drop_succ_cons,List.drop_zero]
     iterate 12
      refine g_step (fun K hK=>?_)
      refine g_still rfl ?_
      apply Exists.intro
      refine ⟨fun w' hw'=>?_,?_⟩
      ·obtain ⟨hc',hf',_⟩:=bcell hw'
       simp only [World.size_drew] at hc' hf'
       go_simp
       rfl
      go_simp
      refine hK _ _ ?_
      clear hK K
     refine g_step (fun K hK=>?_);refine g_call rfl rfl 121 ?_;apply Exists.intro;refine ⟨fun w' hw'=>?_,?_⟩;(focus go_simp;rfl);refine (l1NumT_any a _ HA.out).mono ?_;rintro e w5 ⟨rfl,hb5⟩;refine ⟨_,rfl,hb5,?_⟩;go_simp;apply hK;clear hK K
     iterate 1
      refine g_step (fun K hK=>?_)
      refine g_still rfl ?_
      apply Exists.intro
      refine ⟨fun w' hw'=>?_,?_⟩
      ·obtain ⟨hc',hf',_⟩:=bcell hw'
       simp only [World.size_drew] at hc' hf'
       go_simp
       rfl
      go_simp
      refine hK _ _ ?_
      clear hK K
     refine g_nil ?_
     go_wp2
     go_ret2
     exact ⟨_,by rw [HTX.out,HB1.out,HB2.out];rfl,(fun u hu=>by rw [HTX.out,HB1.out,HB2.out] at hu;injection hu with hu;rw [← hu,Int.toNat_natCast,HGD.out];rfl),hB4.trans ((Below.refl _ _).drew.trans (hb5.mono (by have:=hB4.size;simp;omega)))⟩
end Go.Proofs.YtbljmfcifljkaaaGreatDoor
/-
  The reference's ActText. Own work.
-/
namespace Go.Proofs.YtbljmfcifljkaaaGreatDoor
open Go.RowKit
set_option maxRecDepth 100000
set_option maxHeartbeats 4000000
theorem snText_no (s:SnI) (vp ne ni no vf ge gi go:Value) (k r a:Int) (w:World) (h:SnR w vp ne ni no vf ge gi go s) (hk:inB k 1 6=false) :
  Calls Tryz.prog 57 #[snV s vp ne ni no vf ge gi go,acV ⟨k,r,a⟩] w (AcTP none w):=by
 obtain ⟨⟨a1,c1,rfl⟩,⟨⟨a2,c2,rfl⟩,⟨a3,c3,rfl⟩,a4,c4,rfl⟩,⟨a5,c5,rfl⟩,⟨a6,c6,rfl⟩,⟨a7,c7,rfl⟩,a8,c8,rfl⟩:=h.slices
 unfold snV acV
 have hA1:=alloc_below w (.cells #[.int .i64 s.p,.int .i64 s.k,.int .i64 s.l,.slice a1 s.past.length c1,.int .i64 s.now.wires,.slice a2 s.now.edges.length c2,.slice a3 s.now.ins.length c3,.slice a4 s.now.outs.length c4,.slice a5 s.future.length c5,.int .i64 s.goal.wires,.slice a6 s.goal.edges.length c6,.slice a7 s.goal.ins.length c7,.slice a8 s.goal.outs.length c8] 55)
 have hA2:=alloc_below (w.alloc (.cells #[.int .i64 s.p,.int .i64 s.k,.int .i64 s.l,.slice a1 s.past.length c1,.int .i64 s.now.wires,.slice a2 s.now.edges.length c2,.slice a3 s.now.ins.length c3,.slice a4 s.now.outs.length c4,.slice a5 s.future.length c5,.int .i64 s.goal.wires,.slice a6 s.goal.edges.length c6,.slice a7 s.goal.ins.length c7,.slice a8 s.goal.outs.length c8] 55)) (.cells #[.int .i64 k,.int .i64 r,.int .i64 a] 57)
 have hB:=hA1.trans (hA2.mono hA1.size)
 have HK:=Lib.hid hk
 clear hk hA1 hA2 h
 go_enter Tryz.func57,Tryz.ntmps57
 go_wp2_with (go_at_call 80;refine (l1In_any _ _ _ _).mono ?_;rintro q w1 ⟨rfl,rfl⟩;rw [HK.out])
 go_ret2
 exact ⟨_,rfl,(fun u hu=>by cases hu),hB⟩
theorem snTextAll_any (s:SnI) (vp ne ni no vf ge gi go:Value) (x:AcI) (w:World) (h:SnR w vp ne ni no vf ge gi go s) (htw:twoB s.p s.k s.l=true) :
  Calls Tryz.prog 57 #[snV s vp ne ni no vf ge gi go,acV x] w (AcTP (acText (axNs s) x) w):=by
 obtain ⟨k,r,a⟩:=x
 cases hk:inB k 1 6 with
 | false=>rw [acText_none hk];exact snText_no s vp ne ni no vf ge gi go k r a w h hk
 | true =>
  have h6:1≤k∧k≤6:=by simpa [inB] using hk
  obtain ⟨m,rfl⟩:∃ m:Nat,k=m:=⟨k.toNat,by omega⟩
  exact snText_any s vp ne ni no vf ge gi go m r a w h htw ⟨by omega,by omega⟩
theorem actTextS_any (s:SnI) (vp ne ni no vf ge gi go:Value) (x:AcI) (w:World) (h:SnR w vp ne ni no vf ge gi go s) (hok:SnOk s) :
  Calls Tryz.prog 19 #[snV s vp ne ni no vf ge gi go,acV x] w (AcSP (acSay s x) w):=by
 have hsn:=fun (u:World) (hu:Below w.heap.size w u)=>snGood_any s vp ne ni no vf ge gi go u (h.keep hu) hok
 have hat:=fun (u:World) (hu:Below w.heap.size w u) (htw:twoB s.p s.k s.l=true)=>snTextAll_any s vp ne ni no vf ge gi go x u (h.keep hu) htw
 obtain ⟨k,r,a⟩:=x
 unfold snV acV at hat
 unfold snV at hsn
 obtain ⟨⟨a1,c1,rfl⟩,⟨⟨a2,c2,rfl⟩,⟨a3,c3,rfl⟩,a4,c4,rfl⟩,⟨a5,c5,rfl⟩,⟨a6,c6,rfl⟩,⟨a7,c7,rfl⟩,a8,c8,rfl⟩:=h.slices
 unfold snV acV
 simp only at hat ⊢
 have hA1:=alloc_below w (.cells #[.int .i64 s.p,.int .i64 s.k,.int .i64 s.l,.slice a1 s.past.length c1,.int .i64 s.now.wires,.slice a2 s.now.edges.length c2,.slice a3 s.now.ins.length c3,.slice a4 s.now.outs.length c4,.slice a5 s.future.length c5,.int .i64 s.goal.wires,.slice a6 s.goal.edges.length c6,.slice a7 s.goal.ins.length c7,.slice a8 s.goal.outs.length c8] 55)
 have hA2:=alloc_below (w.alloc (.cells #[.int .i64 s.p,.int .i64 s.k,.int .i64 s.l,.slice a1 s.past.length c1,.int .i64 s.now.wires,.slice a2 s.now.edges.length c2,.slice a3 s.now.ins.length c3,.slice a4 s.now.outs.length c4,.slice a5 s.future.length c5,.int .i64 s.goal.wires,.slice a6 s.goal.edges.length c6,.slice a7 s.goal.ins.length c7,.slice a8 s.goal.outs.length c8] 55)) (.cells #[.int .i64 k,.int .i64 r,.int .i64 a] 57)
 have hB:=hA1.trans (hA2.mono hA1.size)
 have kS:=(Bk.new w 55 #[.int .i64 s.p,.int .i64 s.k,.int .i64 s.l,.slice a1 s.past.length c1,.int .i64 s.now.wires,.slice a2 s.now.edges.length c2,.slice a3 s.now.ins.length c3,.slice a4 s.now.outs.length c4,.slice a5 s.future.length c5,.int .i64 s.goal.wires,.slice a6 s.goal.edges.length c6,.slice a7 s.goal.ins.length c7,.slice a8 s.goal.outs.length c8]).keep hA2
 have kX:=Bk.new (w.alloc (.cells #[.int .i64 s.p,.int .i64 s.k,.int .i64 s.l,.slice a1 s.past.length c1,.int .i64 s.now.wires,.slice a2 s.now.edges.length c2,.slice a3 s.now.ins.length c3,.slice a4 s.now.outs.length c4,.slice a5 s.future.length c5,.int .i64 s.goal.wires,.slice a6 s.goal.edges.length c6,.slice a7 s.goal.ins.length c7,.slice a8 s.goal.outs.length c8] 55)) 57 #[.int .i64 k,.int .i64 r,.int .i64 a]
 simp only [World.size_alloc] at kX
 clear hA1 hA2 h
 unfold acSay
 cases hs:snB s with
 | false =>
  rw [hs] at hsn
  have HSN:=Lib.hid hsn
  clear hsn hs hat
  go_enter Tryz.func19,Tryz.ntmps19
  obtain ⟨iX,-,zX⟩:=kX.cell
  obtain ⟨iS,-,zS⟩:=kS.cell
  go_wp2_with fail
  generalize ((w.alloc (.cells #[.int .i64 s.p,.int .i64 s.k,.int .i64 s.l,.slice a1 s.past.length c1,.int .i64 s.now.wires,.slice a2 s.now.edges.length c2,.slice a3 s.now.ins.length c3,.slice a4 s.now.outs.length c4,.slice a5 s.future.length c5,.int .i64 s.goal.wires,.slice a6 s.goal.edges.length c6,.slice a7 s.goal.ins.length c7,.slice a8 s.goal.outs.length c8] 55)).alloc (.cells #[.int .i64 k,.int .i64 r,.int .i64 a] 57))=u0 at *
  refine (HSN.out _ hB).mono ?_
  rintro q w1 ⟨rfl,hb1⟩
  go_wp2
  go_ret2
  exact ⟨rfl,hB.trans (hb1.mono hB.size)⟩
 | true =>
  rw [hs] at hsn
  have HAT:=Lib.hid (fun u hu=>hat u hu (snB_two2 hs))
  have HSN:=Lib.hid hsn
  simp only [if_true]
  obtain ⟨O,hO⟩:∃ O,acText (axNs s) ⟨k,r,a⟩=O:=⟨_,rfl⟩
  rw [hO] at HAT ⊢
  clear hsn hs hat hO
  cases O
  all_goals
   go_enter Tryz.func19,Tryz.ntmps19
   obtain ⟨iX,-,zX⟩:=kX.cell
   obtain ⟨iS,-,zS⟩:=kS.cell
   go_wp2_with fail
   generalize ((w.alloc (.cells #[.int .i64 s.p,.int .i64 s.k,.int .i64 s.l,.slice a1 s.past.length c1,.int .i64 s.now.wires,.slice a2 s.now.edges.length c2,.slice a3 s.now.ins.length c3,.slice a4 s.now.outs.length c4,.slice a5 s.future.length c5,.int .i64 s.goal.wires,.slice a6 s.goal.edges.length c6,.slice a7 s.goal.ins.length c7,.slice a8 s.goal.outs.length c8] 55)).alloc (.cells #[.int .i64 k,.int .i64 r,.int .i64 a] 57))=u0 at *
   refine (HSN.out _ hB).mono ?_
   rintro q w1 ⟨rfl,hb1⟩
   clear iX zX iS zS
   replace kX:=kX.keep hb1
   replace kS:=kS.keep hb1
   have hB1:=hB.trans (hb1.mono hB.size)
   obtain ⟨iX,-,zX⟩:=kX.cell
   obtain ⟨iS,-,zS⟩:=kS.cell
   go_wp2_with fail
   refine (HAT.out _ hB1).mono ?_
   rintro q w2 ⟨t,rfl,hu,hb2⟩
   clear iX zX iS zS
   have HU:=Lib.hid hu
   clear hu
   go_wp2
   go_ret2
   exact ⟨by first|rfl|(rw [HU.out _ rfl];rfl),hB1.trans (hb2.mono hB1.size)⟩
end Go.Proofs.YtbljmfcifljkaaaGreatDoor
