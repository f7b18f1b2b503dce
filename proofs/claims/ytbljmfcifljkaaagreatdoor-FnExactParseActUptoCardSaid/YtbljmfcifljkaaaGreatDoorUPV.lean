/-
  Acts read from texts, the program's. Own work.
-/
import Derived.Test.YtbljmfcifljkaaaGreatDoorUPR
import Derived.Deep.DeepCutAuto
import Derived.Test.YtbljmfcifljkaaaGreatDoorUAV
import Derived.Test.YtbljmfcifljkaaaGreatDoorUAC
set_option linter.all false
set_option maxRecDepth 100000
set_option maxHeartbeats 8000000
namespace Go.Proofs.YtbljmfcifljkaaaGreatDoor
open Go.RowKit
set_option maxRecDepth 100000
set_option maxHeartbeats 8000000
theorem parseAct_any (s:SnI) (vp ne ni no vf ge gi go:Value) (T:ByteArray) (w:World) (h:SnR w vp ne ni no vf ge gi go s) (htw:twoB s.p s.k s.l=true) (ht:PowTab w) (hT:T.size≤1048576)
  (hSp:∀ u,Below w.heap.size w u → Calls Tryz.prog 130 #[.string T,.string ⟨#[32]⟩] u fun e u'=>∃ v,e=.returned v∧PartsAt u' v (parts T)∧Below u.heap.size u u')
  (hAo:∀ (x:ByteArray) u,x.size≤4194304 → Below w.heap.size w u → Calls Tryz.prog 131 #[.string x] u fun e u'=>∃ ev,e=.returned (.tuple #[.int .i64 (atV x.data.toList),ev])∧Below u.heap.size u u') :
  Calls Tryz.prog 63 #[snV s vp ne ni no vf ge gi go,.string T] w (AcPP (acParse (axNs s) T) w):=by
 obtain ⟨t1,t2,t3⟩:=twoB_in htw
 have hax:=fun (u:World) (hu:Below w.heap.size w u)=>axiomsM_any s vp ne ni no vf ge gi go u (h.keep hu) t1 t2 t3
 have hat:=fun (u:World) (hu:Below w.heap.size w u) (x:AcI)=>actText_any s vp ne ni no vf ge gi go x u (h.keep hu) htw (ht.keep hu)
 unfold snV at hax hat
 unfold acV at hat
 obtain ⟨⟨a1,c1,rfl⟩,⟨⟨a2,c2,rfl⟩,⟨a3,c3,rfl⟩,a4,c4,rfl⟩,⟨a5,c5,rfl⟩,⟨a6,c6,rfl⟩,⟨a7,c7,rfl⟩,a8,c8,rfl⟩:=h.slices
 unfold snV
 have hlm:=(axL_small t1 t2 t3).1
 have hpl:=parts_len T
 have hps:=fun p hp=>part_size (T:=T) (p:=p) hp
 have hp0:0<(parts T).length:=by
  have:=parts_ne T
  rcases Nat.eq_zero_or_pos (parts T).length with h0|h0
  ·exact absurd (List.eq_nil_of_length_eq_zero h0) this
  ·exact h0
 have hno:=fun hh=>acParse_no (ns:=axNs s) (T:=T) hh
 have hyes:=fun k hk hh=>acParse_at (ns:=axNs s) (T:=T) (k:=k) hk hh
 unfold acReadI at hyes
 generalize acParse (axNs s) T=O at *
 have hts:=fun k hh=>acTry_short (ns:=axNs s) (P:=parts T) (k:=k) hh
 have htt:=fun k h1 h2=>acTry_three (ns:=axNs s) (P:=parts T) (k:=k) h1 h2
 unfold axNs at hat hyes hts htt
 generalize axL s.p s.k s.l=L at *
 rw [head_get hp0] at hno hyes
 generalize parts T=P at *
 have hA1:=alloc_below w (.cells #[.int .i64 s.p,.int .i64 s.k,.int .i64 s.l,.slice a1 s.past.length c1,.int .i64 s.now.wires,.slice a2 s.now.edges.length c2,.slice a3 s.now.ins.length c3,.slice a4 s.now.outs.length c4,.slice a5 s.future.length c5,.int .i64 s.goal.wires,.slice a6 s.goal.edges.length c6,.slice a7 s.goal.ins.length c7,.slice a8 s.goal.outs.length c8] 55)
 have hA2:=alloc_below (w.alloc (.cells #[.int .i64 s.p,.int .i64 s.k,.int .i64 s.l,.slice a1 s.past.length c1,.int .i64 s.now.wires,.slice a2 s.now.edges.length c2,.slice a3 s.now.ins.length c3,.slice a4 s.now.outs.length c4,.slice a5 s.future.length c5,.int .i64 s.goal.wires,.slice a6 s.goal.edges.length c6,.slice a7 s.goal.ins.length c7,.slice a8 s.goal.outs.length c8] 55)) (.cells #[.int .i64 0,.int .i64 0,.int .i64 0] 57)
 have hB:=hA1.trans (hA2.mono hA1.size)
 have kS:=(Bk.new w 55 #[.int .i64 s.p,.int .i64 s.k,.int .i64 s.l,.slice a1 s.past.length c1,.int .i64 s.now.wires,.slice a2 s.now.edges.length c2,.slice a3 s.now.ins.length c3,.slice a4 s.now.outs.length c4,.slice a5 s.future.length c5,.int .i64 s.goal.wires,.slice a6 s.goal.edges.length c6,.slice a7 s.goal.ins.length c7,.slice a8 s.goal.outs.length c8]).keep hA2
 have kR:=Bk.new (w.alloc (.cells #[.int .i64 s.p,.int .i64 s.k,.int .i64 s.l,.slice a1 s.past.length c1,.int .i64 s.now.wires,.slice a2 s.now.edges.length c2,.slice a3 s.now.ins.length c3,.slice a4 s.now.outs.length c4,.slice a5 s.future.length c5,.int .i64 s.goal.wires,.slice a6 s.goal.edges.length c6,.slice a7 s.goal.ins.length c7,.slice a8 s.goal.outs.length c8] 55)) 57 #[.int .i64 0,.int .i64 0,.int .i64 0]
 simp only [World.size_alloc] at kR
 clear hA1 hA2 h htw t1 t2 t3 ht
 have HAX:=Lib.hid hax
 have HAT:=Lib.hid hat
 have HPS:=Lib.hid hps
 have HNO:=Lib.hid hno
 have HYES:=Lib.hid hyes
 have HTS:=Lib.hid hts
 have HTT:=Lib.hid htt
 have HSP:=Lib.hid hSp
 have HAO:=Lib.hid hAo
 clear hax hat hps hno hyes hts htt hSp hAo
 obtain ⟨q0,hq0⟩:∃ q,bytesOf P[0]=q:=⟨_,rfl⟩
 rw [hq0] at HNO HYES
 go_enter Tryz.func63,Tryz.ntmps63
 obtain ⟨iS,-,zS⟩:=kS.cell
 obtain ⟨iR,-,zR⟩:=kR.cell
 go_wp2_with fail
 generalize ((w.alloc (.cells #[.int .i64 s.p,.int .i64 s.k,.int .i64 s.l,.slice a1 s.past.length c1,.int .i64 s.now.wires,.slice a2 s.now.edges.length c2,.slice a3 s.now.ins.length c3,.slice a4 s.now.outs.length c4,.slice a5 s.future.length c5,.int .i64 s.goal.wires,.slice a6 s.goal.edges.length c6,.slice a7 s.goal.ins.length c7,.slice a8 s.goal.outs.length c8] 55)).alloc (.cells #[.int .i64 0,.int .i64 0,.int .i64 0] 57))=u0 at *
 refine (HSP.out _ hB).mono ?_
 rintro q w1 ⟨v1,rfl,⟨pa,cp,rfl,hcp,hrow⟩,hb1⟩
 clear iS zS iR zR
 replace kS:=kS.keep hb1
 replace kR:=kR.keep hb1
 have hB1:=hB.trans (hb1.mono hB.size)
 obtain ⟨pb,po,rfl,_,cp0⟩:=hrow 0 hp0
 rw [Nat.zero_mul,Nat.add_zero,hq0] at cp0
 have HROW:=Lib.hid hrow
 have hR1:w.heap.size+1<w1.heap.size:=kR.lt
 have hS1:w.heap.size<w1.heap.size:=kS.lt
 clear hb1 hB hrow hq0 HSP u0
 go_wp2_with fail
 go_loopw [7] (fun i wr=>∃ k:Nat,(1≤k∧k≤7)∧i=.int .i64 k∧Below w1.heap.size w1 wr∧∀ j,1≤j → j<k → acWord j ≠ q0) (fun i _=>7 - (intOf i).toNat)
 case atStart=>exact ⟨1,by omega,rfl,Below.refl _ _,fun j h1 h2=>by omega⟩
 case round =>
  obtain ⟨k,hk,rfl,hbr,hall⟩:=hrel
  have HALL:=Lib.hid hall
  clear hall
  have hbw:=hB1.trans (hbr.mono hB1.size)
  by_cases hlt:k<7
  ·have hwd:=actWord_any k
   rw [show inB (k:Int) 1 6=true by simp [inB];omega] at hwd
   simp only [if_true,Int.toNat_natCast] at hwd
   have HWD:=Lib.hid hwd
   have hA:=alloc_below wr (.cells #[.int .i64 k,.int .i64 0,.int .i64 0] 57)
   have kX:=Bk.new wr 57 #[.int .i64 k,.int .i64 0,.int .i64 0]
   have cq:=cell_keep (hbr.trans (hA.mono hbr.size)) cp0
   have zq:=cell_lt cq
   have hb1u:=hbr.trans (hA.mono hbr.size)
   clear hwd
   have hxz:w1.heap.size≤wr.heap.size:=hbr.size
   have hle6:(k:Int)≤6:=by omega
   go_wp2_with fail
   generalize (wr.alloc (.cells #[.int .i64 k,.int .i64 0,.int .i64 0] 57))=u1 at *
   generalize wr.heap.size=X at *
   clear hA hbr
   have hbu:=hB1.trans (hb1u.mono hB1.size)
   clear hbw
   have up:∀ {w':World},Exc NoT u1.drew w' → Below u1.heap.size u1 w':=fun h=>(Below.refl u1.heap.size u1).drew.trans (h.toBelow.mono (by simp))
   by_cases heq:acWord k=q0
   ·have hcmp:(q0.toList == (acWord k).toList)=true:=str_yes heq.symm
    refine region_acts (C:=Exc (NoT) _) 4 [0,1,2,3,4,5] (by kernel_rfl) (by kernel_rfl) (Exc.grows _ _) (Exc.refl _ _) ?_
    iterate 4 (apply x_st rfl rfl rfl;(focus intro u hc' hf';go_simp <;> rfl);intro K hK;go_simp;apply hK;clear hK K)
    refine x_call rfl rfl rfl (Exc.grows _ _) (Exc.refl _ _) 125 (fun K hK=>?_);apply Exists.intro;refine ⟨fun w' hw'=>?_,fun wa hwa hbwa=>?_⟩;(focus go_simp;rfl);refine (HWD.out _).mono ?_;rintro e w2 ⟨rfl,hb2⟩;refine ⟨_,rfl,hb2,fun hx=>?_⟩;go_simp;apply hK;clear hK K
    iterate 1 (apply x_st rfl rfl rfl;(focus intro u hc' hf';go_simp <;> rfl);intro K hK;go_simp;apply hK;clear hK K)
    refine x_nil ?_
    have hb12:=up hx
    have hbz:=hb1u.trans (hb12.mono hb1u.size)
    replace kX:=kX.keep hb12
    have HYK0:=Lib.hid (HYES.out k (by omega) heq)
    clear hx hwa hbwa hb2 cq zq hb12 heq hcmp up hb1u hbu
    by_cases h3:k≤2∧P.length=3
    ·obtain ⟨hk2,hp3⟩:=h3
     have htry:=HTT.out k (by omega) hp3
     have hl1:1<P.length:=by omega
     have hl2:2<P.length:=by omega
     have hge:((P.length:Int) == 3)=true:=by rw [beq_iff_eq];omega
     have hki:(k:Int)≤2:=by omega
     obtain ⟨_,_,e1,_,cp1⟩:=HROW.out 1 hl1
     simp only [Option.some.injEq,Addr.mk.injEq,and_true] at e1
     obtain ⟨rfl,rfl⟩:=e1
     obtain ⟨_,_,e2,_,cp2⟩:=HROW.out 2 hl2
     simp only [Option.some.injEq,Addr.mk.injEq,and_true] at e2
     obtain ⟨rfl,rfl⟩:=e2
     simp only [Nat.mul_one,Nat.one_mul,Nat.reduceMul] at cp1 cp2
     have hs2:=HPS.out _ (List.getElem_mem hl2)
     obtain ⟨n1,hn1⟩:∃ n,P[1]=n:=⟨_,rfl⟩
     obtain ⟨n2,hn2⟩:∃ n,P[2]=n:=⟨_,rfl⟩
     rw [hn1] at cp1 htry
     rw [hn2] at cp2 htry hs2
     have HTRY:=Lib.hid htry
     obtain ⟨q1,hq1⟩:∃ q,bytesOf n1=q:=⟨_,rfl⟩
     obtain ⟨q2,hq2⟩:∃ q,bytesOf n2=q:=⟨_,rfl⟩
     have hq2n:q2.data.toList=n2:=by rw [← hq2,bytesOf_list]
     rw [hq1] at cp1
     rw [hq2] at cp2 hs2
     have HQ:=Lib.hid (And.intro hq1 hq2n)
     have hSX:¬ w.heap.size=X:=by omega
     clear hk2 hp3 htry hn1 hn2 hq1 hq2 hq2n
     have hBz:=hB1.trans (hbz.mono hB1.size)
     have kS2:=kS.keep hbz
     obtain ⟨iS,-,zS⟩:=kS2.cell
     go_wp2_with fail
     refine (HAX.out _ hBz).mono ?_
     rintro q w3 ⟨v3,rfl,⟨pa3,cp3,rfl,hcp3,hrow3⟩,hb3⟩
     clear iS zS kS2
     replace kX:=kX.keep hb3
     have hb13:=hbz.trans (hb3.mono hbz.size)
     clear hb3 hbz hBz
     go_wp2_with fail
     go_loopw [37] (fun i wr=>∃ j:Nat,j≤L.length∧i=.int .i64 j∧Below w3.heap.size w3 wr∧∀ m,∀ h:m<L.length,m<j → (L[m]'h).name ≠ q1) (fun i _=>L.length - (intOf i).toNat)
     case atStart=>exact ⟨0,Nat.zero_le _,rfl,Below.refl _ _,fun m h1 h2=>by omega⟩
     case round =>
      obtain ⟨j,hj,rfl,hbq,hnam⟩:=hrel
      have HNAM:=Lib.hid hnam
      clear hnam
      replace kX:=kX.keep hbq
      have hb1q:=hb13.trans (hbq.mono hb13.size)
      by_cases hjl:j<L.length
      ·obtain ⟨rb,ro,rfl,_,hru⟩:=hrow3 j hjl
       obtain ⟨d0,⟨vl,d1,hvl⟩,vr,d2,hvr⟩:=hru.keep hbq
       obtain ⟨N,hN⟩:∃ N,L[j].name=N:=⟨_,rfl⟩
       rw [hN] at d0
       obtain ⟨al,cl,rfl⟩:=hvl.slice
       obtain ⟨ar,cr,rfl⟩:=hvr.slice
       generalize L[j].left.length=nl at *
       generalize L[j].right.length=nr at *
       have bz:=cell_lt d0
       have HN:=Lib.hid hN
       have hA5:=alloc_below wr (.cells #[.string N,.slice al nl cl,.slice ar nr cr] 32)
       have k5:=Bk.new wr 32 #[.string N,.slice al nl cl,.slice ar nr cr]
       replace kX:=kX.keep hA5
       have hb15:=hb1q.trans (hA5.mono hb1q.size)
       have hb35:=hbq.trans (hA5.mono hbq.size)
       have g1:=cell_keep hb15 cp1
       have g2:=cell_keep hb15 cp2
       clear hrow3 hru hvl hvr hN hbq hb1q
       go_wp2_with fail
       generalize (wr.alloc (.cells #[.string N,.slice al nl cl,.slice ar nr cr] 32))=u5 at *
       clear d0 d1 d2 bz hA5
       obtain ⟨i5,-,z5⟩:=k5.cell
       have e0:=i5 0
       simp at e0
       clear i5
       have zg:=cell_lt g1
       obtain ⟨iX,fX,zX⟩:=kX.cell
       by_cases hnq:N=q1
       ·have hcq:(N.toList == q1.toList)=true:=str_yes hnq
        have hfi:=find_at (n:=n1) hjl (by rw [HN.out,hnq,HQ.out.1]) (fun m h1 h2=>by rw [HQ.out.1];exact HNAM.out m h1 h2)
        have HFI:=Lib.hid hfi
        have kX3:=fun n=>((kX.keep (below_drewN (Below.refl _ _) n)).set 1 (.int .i64 j))
        have hbX3:=fun n=>(show Below w1.heap.size w1 ((u5.drewN n).setCell ⟨X,1,none⟩ (.int .i64 (j:Int))) from (below_drewN hb15 n).setCell hxz _)
        clear hnq hfi HNAM
        go_quiet (fail)
        go_wp2_with fail
        refine (HAO.out q2 _ (by omega) (hB1.trans ((hbX3 _).mono hB1.size))).mono ?_
        rintro q w8 ⟨ev,rfl,hb8⟩
        have kX8:Bk w8 X 57 #[.int .i64 k,.int .i64 j,.int .i64 0]:=(kX3 _).keep hb8
        have hb18:=(hbX3 _).trans (hb8.mono (hbX3 _).size)
        rw [HQ.out.2]
        generalize atV n2=A at *
        clear iX fX zX kX kX3 hbX3 hb8 g1 g2 e0 zg z5 k5 hb15 hb35
        have kS8:=kS.keep hb18
        obtain ⟨iX,fX,zX⟩:=kX8.cell
        obtain ⟨iS,fS,zS⟩:=kS8.cell
        go_wp2_with fail
        have kX:Bk (w8.setCell ⟨X,2,none⟩ (.int .i64 A)) X 57 #[.int .i64 k,.int .i64 j,.int .i64 A]:=kX8.set 2 _
        have hbz:Below w1.heap.size w1 (w8.setCell ⟨X,2,none⟩ (.int .i64 A)):=hb18.setCell hxz _
        clear iX fX zX iS fS zS kX8 kS8 hb18
        generalize (w8.setCell ⟨X,2,none⟩ (.int .i64 A))=wz at *
        have HYK:=HYK0
        rw [HTRY.out,HFI.out] at HYK
        simp only [Option.getD_some] at HYK
        have hBz:=hB1.trans (hbz.mono hB1.size)
        replace kS:=kS.keep hbz
        replace kR:=kR.keep hbz
        have hat:=HAT.out _ hBz ⟨k,j,A⟩
        obtain ⟨OT,hOT⟩:∃ o,acText (L.map Rul.name) ⟨k,j,A⟩=o:=⟨_,rfl⟩
        rw [hOT] at hat
        have hyk:=HYK.out
        rw [hOT] at hyk
        have HA2:=Lib.hid hat
        clear hat hOT
        cases OT with
        | none =>
         rw [if_neg (by intro e;cases e)] at hyk
         subst hyk
         refine HA2.out.mono ?_
         rintro q w9 ⟨t,rfl,-,hb9⟩
         replace kX:=kX.keep hb9
         replace kR:=kR.keep hb9
         have hB9:=hBz.trans (hb9.mono hBz.size)
         obtain ⟨iX,-,zX⟩:=kX.cell
         obtain ⟨iR,fR,zR⟩:=kR.cell
         go_wp2
         refine bodyPost_ret (v:=.tuple #[.agg #[.int .i64 k,.int .i64 j,.int .i64 A],.bool false]) (by simp [results,Tryz.results63,go_sem,iR]) rfl ⟨_,_,_,rfl,(fun u hu=>by cases hu),?_⟩
         exact ((hB9.setCell (by simp) _).setCell (by simp) _).setCell (by simp) _
        | some tx =>
         by_cases htx:tx=T
         ·subst htx
          rw [if_pos rfl] at hyk
          subst hyk
          have hcq:(tx.toList == tx.toList)=true:=by simp
          refine HA2.out.mono ?_
          rintro q w9 ⟨t,rfl,hu,hb9⟩
          obtain rfl:=hu _ rfl
          clear hu
          replace kX:=kX.keep hb9
          replace kR:=kR.keep hb9
          have hB9:=hBz.trans (hb9.mono hBz.size)
          obtain ⟨iX,-,zX⟩:=kX.cell
          obtain ⟨iR,fR,zR⟩:=kR.cell
          go_wp2
          refine bodyPost_ret (v:=.tuple #[.agg #[.int .i64 k,.int .i64 j,.int .i64 A],.bool true]) (by simp [results,Tryz.results63,go_sem,iR]) rfl ⟨_,_,_,rfl,(fun u hu=>by injection hu with hu;exact hu.symm),?_⟩
          exact ((hB9.setCell (by simp) _).setCell (by simp) _).setCell (by simp) _
         ·have hcq:(tx.toList == T.toList)=false:=str_no htx
          rw [if_neg (by intro e;injection e with e;exact htx e)] at hyk
          subst hyk
          have HTX:=Lib.hid htx
          clear htx
          refine HA2.out.mono ?_
          rintro q w9 ⟨t,rfl,hu,hb9⟩
          obtain rfl:=hu _ rfl
          clear hu
          replace kX:=kX.keep hb9
          replace kR:=kR.keep hb9
          have hB9:=hBz.trans (hb9.mono hBz.size)
          obtain ⟨iX,-,zX⟩:=kX.cell
          obtain ⟨iR,fR,zR⟩:=kR.cell
          go_wp2
          refine bodyPost_ret (v:=.tuple #[.agg #[.int .i64 k,.int .i64 j,.int .i64 A],.bool false]) (by simp [results,Tryz.results63,go_sem,iR]) rfl ⟨_,_,_,rfl,(fun u hu=>by cases hu),?_⟩
          exact ((hB9.setCell (by simp) _).setCell (by simp) _).setCell (by simp) _
       ·have hcq:(N.toList == q1.toList)=false:=str_no hnq
        have HNQ:=Lib.hid hnq
        clear hnq
        go_quiet (fail)
        go_wp2
        go_roundw
        case rel=>exact ⟨j+1,by omega,by go_num,below_drewN hb35 _,fun m h1 h2=>by
         rcases Nat.lt_or_ge m j with h|h
         ·exact HNAM.out m h1 h
         ·obtain rfl:m=j:=by omega
          rw [HN.out];exact HNQ.out⟩
        case measure=>simp [intOf];omega
      ·obtain rfl:j=L.length:=by omega
       have hfi:=find_no (L:=L) (n:=n1) (fun m h1=>by rw [HQ.out.1];exact HNAM.out m h1 h1)
       have HFI:=Lib.hid hfi
       have g2:=cell_keep hb1q cp2
       have zg:=cell_lt g2
       clear hfi HNAM hrow3
       go_wp2_with fail
       refine (HAO.out q2 _ (by omega) (hB1.trans (hb1q.mono hB1.size))).mono ?_
       rintro q w8 ⟨ev,rfl,hb8⟩
       have kX8:=kX.keep hb8
       have hb18:=hb1q.trans (hb8.mono hb1q.size)
       rw [HQ.out.2]
       generalize atV n2=A at *
       clear kX hb8 g2 zg hbq
       have kS8:=kS.keep hb18
       obtain ⟨iX,fX,zX⟩:=kX8.cell
       obtain ⟨iS,fS,zS⟩:=kS8.cell
       go_wp2_with fail
       have kX:Bk (w8.setCell ⟨X,2,none⟩ (.int .i64 A)) X 57 #[.int .i64 k,.int .i64 0,.int .i64 A]:=kX8.set 2 _
       have hbz:Below w1.heap.size w1 (w8.setCell ⟨X,2,none⟩ (.int .i64 A)):=hb18.setCell hxz _
       clear iX fX zX iS fS zS kX8 kS8 hb18
       generalize (w8.setCell ⟨X,2,none⟩ (.int .i64 A))=wz at *
       have HYK:=HYK0
       rw [HTRY.out,HFI.out] at HYK
       simp only [Option.getD_none] at HYK
       have hBz:=hB1.trans (hbz.mono hB1.size)
       replace kS:=kS.keep hbz
       replace kR:=kR.keep hbz
       have hat:=HAT.out _ hBz ⟨k,(0:Nat),A⟩
       obtain ⟨OT,hOT⟩:∃ o,acText (L.map Rul.name) ⟨k,(0:Nat),A⟩=o:=⟨_,rfl⟩
       rw [hOT] at hat
       have hyk:=HYK.out
       rw [hOT] at hyk
       have HA2:=Lib.hid hat
       clear hat hOT
       cases OT with
       | none =>
        rw [if_neg (by intro e;cases e)] at hyk
        subst hyk
        refine HA2.out.mono ?_
        rintro q w9 ⟨t,rfl,-,hb9⟩
        replace kX:=kX.keep hb9
        replace kR:=kR.keep hb9
        have hB9:=hBz.trans (hb9.mono hBz.size)
        obtain ⟨iX,-,zX⟩:=kX.cell
        obtain ⟨iR,fR,zR⟩:=kR.cell
        go_wp2
        refine bodyPost_ret (v:=.tuple #[.agg #[.int .i64 k,.int .i64 0,.int .i64 A],.bool false]) (by simp [results,Tryz.results63,go_sem,iR]) rfl ⟨_,_,_,rfl,(fun u hu=>by cases hu),?_⟩
        exact ((hB9.setCell (by simp) _).setCell (by simp) _).setCell (by simp) _
       | some tx =>
        by_cases htx:tx=T
        ·subst htx
         rw [if_pos rfl] at hyk
         subst hyk
         have hcq:(tx.toList == tx.toList)=true:=by simp
         refine HA2.out.mono ?_
         rintro q w9 ⟨t,rfl,hu,hb9⟩
         obtain rfl:=hu _ rfl
         clear hu
         replace kX:=kX.keep hb9
         replace kR:=kR.keep hb9
         have hB9:=hBz.trans (hb9.mono hBz.size)
         obtain ⟨iX,-,zX⟩:=kX.cell
         obtain ⟨iR,fR,zR⟩:=kR.cell
         go_wp2
         refine bodyPost_ret (v:=.tuple #[.agg #[.int .i64 k,.int .i64 0,.int .i64 A],.bool true]) (by simp [results,Tryz.results63,go_sem,iR]) rfl ⟨_,_,_,rfl,(fun u hu=>by injection hu with hu;exact hu.symm),?_⟩
         exact ((hB9.setCell (by simp) _).setCell (by simp) _).setCell (by simp) _
        ·have hcq:(tx.toList == T.toList)=false:=str_no htx
         rw [if_neg (by intro e;injection e with e;exact htx e)] at hyk
         subst hyk
         have HTX:=Lib.hid htx
         clear htx
         refine HA2.out.mono ?_
         rintro q w9 ⟨t,rfl,hu,hb9⟩
         obtain rfl:=hu _ rfl
         clear hu
         replace kX:=kX.keep hb9
         replace kR:=kR.keep hb9
         have hB9:=hBz.trans (hb9.mono hBz.size)
         obtain ⟨iX,-,zX⟩:=kX.cell
         obtain ⟨iR,fR,zR⟩:=kR.cell
         go_wp2
         refine bodyPost_ret (v:=.tuple #[.agg #[.int .i64 k,.int .i64 0,.int .i64 A],.bool false]) (by simp [results,Tryz.results63,go_sem,iR]) rfl ⟨_,_,_,rfl,(fun u hu=>by cases hu),?_⟩
         exact ((hB9.setCell (by simp) _).setCell (by simp) _).setCell (by simp) _
    ·have htry:=HTS.out k (by omega)
     have HYK:=HYK0
     rw [htry] at HYK
     have hg:(k:Int)≤2∨¬ (k:Int)≤2:=by omega
     have hgd:¬ (k:Int)≤2∨((k:Int)≤2∧((P.length:Int) == 3)=false):=by
      rcases hg with h|h
      ·exact .inr ⟨h,by rw [beq_eq_false_iff_ne];omega⟩
      ·exact .inl h
     clear h3 hg htry HYK0
     rcases hgd with hg1|⟨hg1,hg2⟩
     all_goals
      have hBz:=hB1.trans (hbz.mono hB1.size)
      replace kS:=kS.keep hbz
      replace kR:=kR.keep hbz
      obtain ⟨iS,-,zS⟩:=kS.cell
      obtain ⟨iX,-,zX⟩:=kX.cell
      go_wp2_with fail
      clear iX zX iS zS
      have hat:=HAT.out _ hBz ⟨k,0,0⟩
      obtain ⟨OT,hOT⟩:∃ o,acText (L.map Rul.name) ⟨k,0,0⟩=o:=⟨_,rfl⟩
      rw [hOT] at hat
      have hyk:=HYK.out
      rw [hOT] at hyk
      have HA2:=Lib.hid hat
      clear hat hOT
      cases OT with
      | none =>
       rw [if_neg (by intro e;cases e)] at hyk
       subst hyk
       refine HA2.out.mono ?_
       rintro q w9 ⟨t,rfl,-,hb9⟩
       replace kX:=kX.keep hb9
       replace kR:=kR.keep hb9
       have hB9:=hBz.trans (hb9.mono hBz.size)
       obtain ⟨iX,-,zX⟩:=kX.cell
       obtain ⟨iR,fR,zR⟩:=kR.cell
       go_wp2
       refine bodyPost_ret (v:=.tuple #[.agg #[.int .i64 k,.int .i64 0,.int .i64 0],.bool false]) (by simp [results,Tryz.results63,go_sem,iR]) rfl ⟨_,_,_,rfl,(fun u hu=>by cases hu),?_⟩
       exact ((hB9.setCell (by simp) _).setCell (by simp) _).setCell (by simp) _
      | some tx =>
       by_cases htx:tx=T
       ·subst htx
        rw [if_pos rfl] at hyk
        subst hyk
        have hcq:(tx.toList == tx.toList)=true:=by simp
        refine HA2.out.mono ?_
        rintro q w9 ⟨t,rfl,hu,hb9⟩
        obtain rfl:=hu _ rfl
        clear hu
        replace kX:=kX.keep hb9
        replace kR:=kR.keep hb9
        have hB9:=hBz.trans (hb9.mono hBz.size)
        obtain ⟨iX,-,zX⟩:=kX.cell
        obtain ⟨iR,fR,zR⟩:=kR.cell
        go_wp2
        refine bodyPost_ret (v:=.tuple #[.agg #[.int .i64 k,.int .i64 0,.int .i64 0],.bool true]) (by simp [results,Tryz.results63,go_sem,iR]) rfl ⟨_,_,_,rfl,(fun u hu=>by injection hu with hu;exact hu.symm),?_⟩
        exact ((hB9.setCell (by simp) _).setCell (by simp) _).setCell (by simp) _
       ·have hcq:(tx.toList == T.toList)=false:=str_no htx
        rw [if_neg (by intro e;injection e with e;exact htx e)] at hyk
        subst hyk
        have HTX:=Lib.hid htx
        clear htx
        refine HA2.out.mono ?_
        rintro q w9 ⟨t,rfl,hu,hb9⟩
        obtain rfl:=hu _ rfl
        clear hu
        replace kX:=kX.keep hb9
        replace kR:=kR.keep hb9
        have hB9:=hBz.trans (hb9.mono hBz.size)
        obtain ⟨iX,-,zX⟩:=kX.cell
        obtain ⟨iR,fR,zR⟩:=kR.cell
        go_wp2
        refine bodyPost_ret (v:=.tuple #[.agg #[.int .i64 k,.int .i64 0,.int .i64 0],.bool false]) (by simp [results,Tryz.results63,go_sem,iR]) rfl ⟨_,_,_,rfl,(fun u hu=>by cases hu),?_⟩
        exact ((hB9.setCell (by simp) _).setCell (by simp) _).setCell (by simp) _
   ·have hcmp:(q0.toList == (acWord k).toList)=false:=str_no fun e=>heq e.symm
    have HEQ:=Lib.hid heq
    clear heq
    refine region_acts (C:=Exc (NoT) _) 4 [0,1,2,3,4,5] (by kernel_rfl) (by kernel_rfl) (Exc.grows _ _) (Exc.refl _ _) ?_
    iterate 4 (apply x_st rfl rfl rfl;(focus intro u hc' hf';go_simp <;> rfl);intro K hK;go_simp;apply hK;clear hK K)
    refine x_call rfl rfl rfl (Exc.grows _ _) (Exc.refl _ _) 125 (fun K hK=>?_);apply Exists.intro;refine ⟨fun w' hw'=>?_,fun wa hwa hbwa=>?_⟩;(focus go_simp;rfl);refine (HWD.out _).mono ?_;rintro e w2 ⟨rfl,hb2⟩;refine ⟨_,rfl,hb2,fun hx=>?_⟩;go_simp;apply hK;clear hK K
    iterate 1 (apply x_st rfl rfl rfl;(focus intro u hc' hf';go_simp <;> rfl);intro K hK;go_simp;apply hK;clear hK K)
    refine x_nil ?_
    have hb12:=up hx
    have hb13:=hb1u.trans (hb12.mono hb1u.size)
    clear hx hwa hbwa hb2 cq zq kX hb12
    go_wp2
    go_roundw
    case rel=>exact ⟨k+1,by omega,by go_num,hb13,fun j h1 h2=>by
     rcases Nat.lt_or_ge j k with h|h
     ·exact HALL.out j h1 h
     ·obtain rfl:j=k:=by omega
      exact HEQ.out⟩
    case measure=>simp [intOf];omega
  ·obtain rfl:k=7:=by omega
   have hfin:=HNO.out fun j h1 h2=>HALL.out j h1 h2
   replace kR:=kR.keep hbr
   obtain ⟨iR,fR,zR⟩:=kR.cell
   subst hfin
   go_wp2
   refine bodyPost_ret (v:=.tuple #[.agg #[.int .i64 0,.int .i64 0,.int .i64 0],.bool false]) (by simp [results,Tryz.results63,go_sem,iR]) rfl ⟨_,_,_,rfl,(fun u hu=>by cases hu),?_⟩
   exact ((hbw.setCell (by simp) _).setCell (by simp) _).setCell (by simp) _
end Go.Proofs.YtbljmfcifljkaaaGreatDoor
/-
  Acts read from texts, the reference's. Own work.
-/
namespace Go.Proofs.YtbljmfcifljkaaaGreatDoor
open Go.RowKit
set_option maxRecDepth 100000
set_option maxHeartbeats 8000000
theorem head_some {P:List (List UInt8)} (h:0<P.length):P.head?=some P[0]:=by
 cases P with
 | nil=>simp at h
 | cons a b=>rfl
theorem acRead_long {ns:List ByteArray} {P:List (List UInt8)} {k:Nat} (h:2<k):acRead ns P k=if P.length=1 then some ⟨k,0,0⟩ else none:=by unfold acRead;rw [if_pos h]
theorem acRead_no {ns:List ByteArray} {P:List (List UInt8)} {k:Nat} (h:¬ 2<k) (hp:P.length ≠ 3):acRead ns P k=none:=by
 unfold acRead
 rw [if_neg h]
 match P,hp with
 | [],_=>rfl
 | [_],_=>rfl
 | [_,_],_=>rfl
 | [_,_,_],h=>exact absurd rfl h
 | _ :: _ :: _ :: _ :: _,_=>rfl
theorem acRead_some {ns:List ByteArray} {P:List (List UInt8)} {k i:Nat} (h:¬ 2<k) (hP:P.length=3) (hf:findI ns (P[1]'(by omega))=some i) (hr:inB (rdA (bytesOf (P[2]'(by omega)))) 0 999=true) :
  acRead ns P k=some ⟨k,i,rdA (bytesOf (P[2]'(by omega)))⟩:=by
 match P,hP with
 | [a,b,c],_ =>
  unfold acRead
  rw [if_neg h]
  simp only [List.getElem_cons_succ,List.getElem_cons_zero] at hf hr ⊢
  rw [hf]
  show (if inB (rdA (bytesOf c)) 0 999=true then _ else _)=_
  rw [if_pos hr]
theorem acRead_out {ns:List ByteArray} {P:List (List UInt8)} {k:Nat} (h:¬ 2<k) (hP:P.length=3) (hr:inB (rdA (bytesOf (P[2]'(by omega)))) 0 999=false):acRead ns P k=none:=by
 match P,hP with
 | [a,b,c],_ =>
  unfold acRead
  rw [if_neg h]
  simp only [List.getElem_cons_succ,List.getElem_cons_zero] at hr
  cases hf:findI ns b with
  | none=>simp only [hf]
  | some i =>
   simp only [hf]
   rw [if_neg (by rw [hr];simp)]
theorem acRead_none {ns:List ByteArray} {P:List (List UInt8)} {k:Nat} (h:¬ 2<k) (hP:P.length=3) (hf:findI ns (P[1]'(by omega))=none):acRead ns P k=none:=by
 match P,hP with
 | [a,b,c],_ =>
  unfold acRead
  rw [if_neg h]
  simp only [List.getElem_cons_succ,List.getElem_cons_zero] at hf
  simp only [hf]
theorem l1InQ (n lo hi:Int) (w:World):Calls Tryz.prog 80 #[.int .i64 n,.int .i64 lo,.int .i64 hi] w fun e w'=>e=.returned (.bool (inB n lo hi))∧∃ m,w'=w.drewN m :=
 (l1In_any n lo hi w).mono fun e w' ⟨h1,h2⟩=>⟨h1,0,h2.symm⟩
theorem acWord_inj:∀ i:Nat,i<7 → ∀ j:Nat,j<7 → acWord i=acWord j → i=j:=by decide
theorem snParse_any (s:SnI) (vp ne ni no vf ge gi go:Value) (T:ByteArray) (w:World) (h:SnR w vp ne ni no vf ge gi go s) (htw:twoB s.p s.k s.l=true) (hT:T.size≤1048576) :
  Calls Tryz.prog 62 #[snV s vp ne ni no vf ge gi go,.string T] w (AcPP (acParse (axNs s) T) w):=by
 obtain ⟨t1,t2,t3⟩:=twoB_in htw
 have hax:=fun (u:World)=>(axRules_any s.p s.k s.l u t1 t2 t3).mono (R':=RusQ (axL s.p s.k s.l) u) fun _ _ hq=>hq.q
 obtain ⟨⟨a1,c1,rfl⟩,⟨⟨a2,c2,rfl⟩,⟨a3,c3,rfl⟩,a4,c4,rfl⟩,⟨a5,c5,rfl⟩,⟨a6,c6,rfl⟩,⟨a7,c7,rfl⟩,a8,c8,rfl⟩:=h.slices
 unfold snV
 have hsp:=fun u:World=>(l1Split_any T 32 u (by omega)).mono (R':=fun e u'=>∃ v,e=.returned v∧PartsAt u' v (parts T)∧Below u.heap.size u u') fun _ _ ⟨v,h1,h2,h3⟩=>⟨v,h1,h2.at,h3⟩
 have hlm:=(axL_small t1 t2 t3).1
 have hpl:=parts_len T
 have hps:=fun p hp=>part_size (T:=T) (p:=p) hp
 have hp0:0<(parts T).length:=by
  have:=parts_ne T
  rcases Nat.eq_zero_or_pos (parts T).length with h0|h0
  ·exact absurd (List.eq_nil_of_length_eq_zero h0) this
  ·exact h0
 have hnm:=ax_names (p:=s.p) (k:=s.k) (l:=s.l)
 have hno:=fun hh=>acParse_no (ns:=axNs s) (T:=T) hh
 have hyes:=fun (k:Nat) (hk:1≤k∧k≤6) (hh:acWord k=bytesOf ((parts T).headD []))=>(acParse_at (ns:=axNs s) (T:=T) (k:=k) hk hh).trans (acRead_eq (ns:=axNs s) (fun n hn=>(hnm n hn).1) T k hk (by
  have h1:=head_get hp0
  rw [hh,bytesOf_list,h1]
  exact head_some hp0)).symm
 generalize acParse (axNs s) T=O at *
 unfold axNs at hyes
 generalize axL s.p s.k s.l=L at *
 rw [head_get hp0] at hno hyes
 generalize parts T=P at *
 have hA1:=alloc_below w (.cells #[.int .i64 s.p,.int .i64 s.k,.int .i64 s.l,.slice a1 s.past.length c1,.int .i64 s.now.wires,.slice a2 s.now.edges.length c2,.slice a3 s.now.ins.length c3,.slice a4 s.now.outs.length c4,.slice a5 s.future.length c5,.int .i64 s.goal.wires,.slice a6 s.goal.edges.length c6,.slice a7 s.goal.ins.length c7,.slice a8 s.goal.outs.length c8] 55)
 have hA2:=alloc_below (w.alloc (.cells #[.int .i64 s.p,.int .i64 s.k,.int .i64 s.l,.slice a1 s.past.length c1,.int .i64 s.now.wires,.slice a2 s.now.edges.length c2,.slice a3 s.now.ins.length c3,.slice a4 s.now.outs.length c4,.slice a5 s.future.length c5,.int .i64 s.goal.wires,.slice a6 s.goal.edges.length c6,.slice a7 s.goal.ins.length c7,.slice a8 s.goal.outs.length c8] 55)) (.cells #[.int .i64 0,.int .i64 0,.int .i64 0] 57)
 have hB:=hA1.trans (hA2.mono hA1.size)
 have kS:=(Bk.new w 55 #[.int .i64 s.p,.int .i64 s.k,.int .i64 s.l,.slice a1 s.past.length c1,.int .i64 s.now.wires,.slice a2 s.now.edges.length c2,.slice a3 s.now.ins.length c3,.slice a4 s.now.outs.length c4,.slice a5 s.future.length c5,.int .i64 s.goal.wires,.slice a6 s.goal.edges.length c6,.slice a7 s.goal.ins.length c7,.slice a8 s.goal.outs.length c8]).keep hA2
 have kR:=Bk.new (w.alloc (.cells #[.int .i64 s.p,.int .i64 s.k,.int .i64 s.l,.slice a1 s.past.length c1,.int .i64 s.now.wires,.slice a2 s.now.edges.length c2,.slice a3 s.now.ins.length c3,.slice a4 s.now.outs.length c4,.slice a5 s.future.length c5,.int .i64 s.goal.wires,.slice a6 s.goal.edges.length c6,.slice a7 s.goal.ins.length c7,.slice a8 s.goal.outs.length c8] 55)) 57 #[.int .i64 0,.int .i64 0,.int .i64 0]
 simp only [World.size_alloc] at kR
 clear hA1 hA2 h htw t1 t2 t3 hnm
 have HAX:=Lib.hid hax
 have HPS:=Lib.hid hps
 have HNO:=Lib.hid hno
 have HYES:=Lib.hid hyes
 have HSP:=Lib.hid hsp
 clear hax hps hno hyes hsp
 obtain ⟨q0,hq0⟩:∃ q,bytesOf P[0]=q:=⟨_,rfl⟩
 rw [hq0] at HNO HYES
 go_enter Tryz.func62,Tryz.ntmps62
 go_wp2_with fail
 generalize ((w.alloc (.cells #[.int .i64 s.p,.int .i64 s.k,.int .i64 s.l,.slice a1 s.past.length c1,.int .i64 s.now.wires,.slice a2 s.now.edges.length c2,.slice a3 s.now.ins.length c3,.slice a4 s.now.outs.length c4,.slice a5 s.future.length c5,.int .i64 s.goal.wires,.slice a6 s.goal.edges.length c6,.slice a7 s.goal.ins.length c7,.slice a8 s.goal.outs.length c8] 55)).alloc (.cells #[.int .i64 0,.int .i64 0,.int .i64 0] 57))=u0 at *
 refine (HSP.out _).mono ?_
 rintro q w1 ⟨v1,rfl,hp1,hb1⟩
 obtain ⟨pa,cp,rfl⟩:=hp1.shape
 replace kS:=kS.keep hb1
 replace kR:=kR.keep hb1
 have hB1:=hB.trans (hb1.mono hB.size)
 clear hb1 hB HSP u0
 go_wp2_with fail
 refine (snWords_any _).mono ?_
 rintro q w2 ⟨n,rfl,hn7,hcl,hb2,hz2⟩
 have HN7:=Lib.hid hn7
 have HCL:=Lib.hid hcl
 replace kS:=kS.keep hb2
 replace kR:=kR.keep hb2
 have hB2:=hB1.trans (hb2.mono hB1.size)
 replace hp1:=hp1.keep hb2
 obtain ⟨_,_,e0,hcp,hrow⟩:=hp1
 simp only [Value.slice.injEq] at e0
 obtain ⟨rfl,-,rfl⟩:=e0
 obtain ⟨pb,po,rfl,_,cp0⟩:=hrow 0 hp0
 rw [Nat.zero_mul,Nat.add_zero,hq0] at cp0
 have HROW:=Lib.hid hrow
 have hR2:w.heap.size+1<w2.heap.size:=kR.lt
 have hS2:w.heap.size<w2.heap.size:=kS.lt
 generalize w1.heap.size=wb at *
 clear hn7 hcl hb2 hB1 hrow hq0
 go_wp2_with fail
 go_loopw [16] (fun i wr=>∃ k:Nat,k≤n∧i=.int .i64 k∧Below w2.heap.size w2 wr∧Hid ((∀ j,1≤j → j<k → acWord j ≠ q0)∨(O=none∧∀ j,k≤j → j<7 → acWord j ≠ q0))) (fun i _=>n - (intOf i).toNat)
 case atStart=>exact ⟨0,Nat.zero_le _,rfl,Below.refl _ _,Lib.hid (.inl fun j h1 h2=>by omega)⟩
 case round =>
  obtain ⟨k,hk,rfl,hbr,HALL⟩:=hrel
  have hbw:=hB2.trans (hbr.mono hB2.size)
  by_cases hlt:k<n
  ·have hk7:k<7:=by have:=HN7.out;omega
   have cw:=cell_keep hbr (HCL.out k (by have:=HN7.out;omega))
   have cq:=cell_keep hbr cp0
   have zw:=cell_lt cw
   have zq:=cell_lt cq
   rcases Nat.eq_zero_or_pos k with hk0|hk1
   ·subst hk0
    go_wp2
    go_roundw
    case rel=>exact ⟨1,by omega,by go_num,hbr,Lib.hid (by
     rcases HALL.out with h|⟨h1,h2⟩
     ·exact .inl fun j h1 h2=>by omega
     ·exact .inr ⟨h1,fun j h3 h4=>h2 j (by omega) h4⟩)⟩
    case measure=>simp [intOf];omega
   ·have hkz:((k:Int) == 0)=false:=by rw [beq_eq_false_iff_ne];omega
    by_cases heq:acWord k=q0
    ·have hcmp:(q0.toList == (acWord k).toList)=true:=str_yes heq.symm
     have hyk:=HYES.out k (by omega) heq
     have hdis:∀ j,k+1≤j → j<7 → acWord j ≠ q0:=fun j h1 h2 e=>by
      have:=acWord_inj j h2 k hk7 (e.trans heq.symm)
      omega
     have HDIS:=Lib.hid hdis
     have HYK:=Lib.hid hyk
     clear HALL heq hyk hdis
     have hA:=alloc_below wr (.cells #[.int .i64 k,.int .i64 0,.int .i64 0] 57)
     have kX:=Bk.new wr 57 #[.int .i64 k,.int .i64 0,.int .i64 0]
     have hb2u:=hbr.trans (hA.mono hbr.size)
     have kRu:=kR.keep hb2u
     have hxz:w2.heap.size≤wr.heap.size:=hbr.size
     by_cases hgt:2<k
     ·have hgi:(2:Int)<k:=by omega
      have hy:=HYK.out
      rw [acRead_long hgt] at hy
      obtain ⟨iR,fR,zR⟩:=kRu.cell
      obtain ⟨b1,hb1⟩:∃ b,((P.length:Int) == 1)=b:=⟨_,rfl⟩
      have hbU:=hB2.trans (hb2u.mono hB2.size)
      cases b1 with
      | true =>
       rw [if_pos (by rw [beq_iff_eq] at hb1;omega)] at hy
       subst hy
       go_wp2
       refine bodyPost_ret (v:=.tuple #[.agg #[.int .i64 k,.int .i64 0,.int .i64 0],.bool true]) (by simp [results,Tryz.results62,go_sem,iR]) rfl ⟨_,_,_,rfl,(fun u hu=>by injection hu with hu;exact hu.symm),?_⟩
       exact ((hbU.setCell (by simp) _).setCell (by simp) _).setCell (by simp) _
      | false =>
       rw [if_neg (by rw [beq_eq_false_iff_ne] at hb1;omega)] at hy
       subst hy
       go_wp2
       refine bodyPost_ret (v:=.tuple #[.agg #[.int .i64 k,.int .i64 0,.int .i64 0],.bool false]) (by simp [results,Tryz.results62,go_sem,iR]) rfl ⟨_,_,_,rfl,(fun u hu=>by cases hu),?_⟩
       exact ((hbU.setCell (by simp) _).setCell (by simp) _).setCell (by simp) _
     ·have hgi:¬ (2:Int)<k:=by omega
      by_cases hp3:P.length=3
      ·have hpn:((P.length:Int) != 3)=false:=by simp [hp3]
       have hl1:1<P.length:=by omega
       have hl2:2<P.length:=by omega
       obtain ⟨_,_,e1,_,cp1⟩:=HROW.out 1 hl1
       simp only [Option.some.injEq,Addr.mk.injEq,and_true] at e1
       obtain ⟨rfl,rfl⟩:=e1
       obtain ⟨_,_,e2,_,cp2⟩:=HROW.out 2 hl2
       simp only [Option.some.injEq,Addr.mk.injEq,and_true] at e2
       obtain ⟨rfl,rfl⟩:=e2
       simp only [Nat.mul_one,Nat.one_mul,Nat.reduceMul] at cp1 cp2
       have hs2:=HPS.out _ (List.getElem_mem hl2)
       have hso:=fun i hf hr=>acRead_some (ns:=L.map Rul.name) (P:=P) (k:=k) (i:=i) hgt hp3 hf hr
       have hou:=fun hr=>acRead_out (ns:=L.map Rul.name) (P:=P) (k:=k) hgt hp3 hr
       have hnn:=fun hf=>acRead_none (ns:=L.map Rul.name) (P:=P) (k:=k) hgt hp3 hf
       rw [← HYK.out] at hso hou hnn
       obtain ⟨n1,hn1⟩:∃ n,P[1]=n:=⟨_,rfl⟩
       obtain ⟨q1,hq1⟩:∃ q,bytesOf n1=q:=⟨_,rfl⟩
       obtain ⟨q2,hq2⟩:∃ q,bytesOf P[2]=q:=⟨_,rfl⟩
       rw [hn1] at cp1 hso hnn
       rw [hq1] at cp1
       rw [hq2] at cp2 hs2 hso hou
       have HQ1:=Lib.hid hq1
       obtain ⟨A,hA2⟩:∃ A,rdA q2=A:=⟨_,rfl⟩
       rw [hA2] at hso hou
       have hrd:=fun u=>l1ReadA_any q2 u (by omega)
       rw [hA2] at hrd
       have HRD:=Lib.hid hrd
       obtain ⟨b2,hb2⟩:∃ b,inB A 0 999=b:=⟨_,rfl⟩
       rw [hb2] at hso hou
       have HSO:=Lib.hid hso
       have HOU:=Lib.hid hou
       have HNN:=Lib.hid hnn
       have HBB:=Lib.hid hb2
       have hlq:=fun u:World=>l1InQ A 0 999 u
       rw [hb2] at hlq
       have HLQ:=Lib.hid hlq
       clear hlq
       clear hp3 hn1 hq1 hq2 hA2 hso hou hnn hrd hb2 HYK
       have kSr:=kS.keep hbr
       obtain ⟨iS,-,zS⟩:=kSr.cell
       have g2:=cell_keep hbr cp2
       have zg:=cell_lt g2
       have hSX:¬ w.heap.size=wr.heap.size:=by omega
       have hA3:=alloc_below wr (.cells #[.int .i64 k,.int .i64 0,.int .i64 A] 57)
       have kX3:=Bk.new wr 57 #[.int .i64 k,.int .i64 0,.int .i64 A]
       have hb23:=hbr.trans (hA3.mono hbr.size)
       clear kX kRu hb2u hA
       go_wp2_with (go_at_call 101;refine (HRD.out _).mono ?_;rintro q u3 ⟨rfl,rfl⟩)
       generalize (wr.alloc (.cells #[.int .i64 k,.int .i64 0,.int .i64 A] 57))=u3 at *
       generalize wr.heap.size=X at *
       clear kSr iS zS g2 zg hA3 hbr hbw cw cq zw zq
       refine (HAX.out _).mono ?_
       rintro q w4 ⟨v4,rfl,⟨pa4,cp4,rfl,hcp4,hrow4⟩,hb4⟩
       replace kX3:=kX3.keep hb4
       have hb24:=hb23.trans (hb4.mono hb23.size)
       clear hb4 hb23
       go_wp2_with fail
       go_loopw [55] (fun i wr=>∃ j:Nat,j≤L.length∧i=.int .i64 j∧Below w4.heap.size w4 wr∧∀ m,∀ h:m<L.length,m<j → b2=true → (L[m]'h).name ≠ q1) (fun i _=>L.length - (intOf i).toNat)
       case atStart=>exact ⟨0,Nat.zero_le _,rfl,Below.refl _ _,fun m h1 h2=>by omega⟩
       case round =>
        obtain ⟨j,hj,rfl,hbq,hnam⟩:=hrel
        have HNAM:=Lib.hid hnam
        clear hnam
        replace kX3:=kX3.keep hbq
        have hb2q:=hb24.trans (hbq.mono hb24.size)
        by_cases hjl:j<L.length
        ·obtain ⟨rb,ro,rfl,_,hru⟩:=hrow4 j hjl
         obtain ⟨d0,⟨vl,d1,hvl⟩,vr,d2,hvr⟩:=hru.keep hbq
         obtain ⟨N,hN⟩:∃ N,L[j].name=N:=⟨_,rfl⟩
         rw [hN] at d0
         obtain ⟨al,cl,rfl⟩:=hvl.slice
         obtain ⟨ar,cr,rfl⟩:=hvr.slice
         generalize L[j].left.length=nl at *
         generalize L[j].right.length=nr at *
         have bz:=cell_lt d0
         have HN:=Lib.hid hN
         have hA5:=alloc_below wr (.cells #[.string N,.slice al nl cl,.slice ar nr cr] 32)
         have k5:=Bk.new wr 32 #[.string N,.slice al nl cl,.slice ar nr cr]
         replace kX3:=kX3.keep hA5
         have hb25:=hb2q.trans (hA5.mono hb2q.size)
         have hb45:=hbq.trans (hA5.mono hbq.size)
         have g1:=cell_keep hb25 cp1
         have kR5:=kR.keep hb25
         clear hrow4 hru hvl hvr hN hbq hb2q
         go_wp2_with fail
         generalize (wr.alloc (.cells #[.string N,.slice al nl cl,.slice ar nr cr] 32))=u5 at *
         clear d0 d1 d2 bz hA5
         obtain ⟨i5,-,z5⟩:=k5.cell
         have e0:=i5 0
         simp at e0
         clear i5
         have zg:=cell_lt g1
         obtain ⟨iX,fX,zX⟩:=kX3.cell
         have x2:=iX 2
         simp at x2
         by_cases hnq:N=q1
         ·have hcq:(N.toList == q1.toList)=true:=str_yes hnq
          cases b2 with
          | true =>
           have hfi:=find_at (n:=n1) hjl (by rw [HN.out,hnq,HQ1.out]) (fun m h1 h2=>by rw [HQ1.out];exact HNAM.out m h1 h2 rfl)
           have hO:=HSO.out j hfi rfl
           subst hO
           obtain ⟨iR,fR,zR⟩:=kR5.cell
           have hbU:=hB2.trans (hb25.mono hB2.size)
           have hwX:w.heap.size≤X:=by omega
           clear hfi HNAM hnq
           go_quiet ((go_at_call 80;refine Calls.quiet_of (HLQ.out _)))
           go_wp2
           refine bodyPost_ret (v:=.tuple #[.agg #[.int .i64 k,.int .i64 j,.int .i64 A],.bool true]) (by simp [results,Tryz.results62,go_sem,iR]) rfl ⟨_,_,_,rfl,(fun u hu=>by injection hu with hu;exact hu.symm),?_⟩
           exact ((((below_drewN hbU _).setCell hwX _).setCell (by simp) _).setCell (by simp) _).setCell (by simp) _
          | false =>
           clear hnq
           go_quiet ((go_at_call 80;refine Calls.quiet_of (HLQ.out _)))
           go_wp2
           go_roundw
           case rel=>exact ⟨j+1,by omega,by go_num,below_drewN hb45 _,fun m h1 h2 h3=>by cases h3⟩
           case measure=>simp [intOf];omega
         ·have hcq:(N.toList == q1.toList)=false:=str_no hnq
          have HNQ:=Lib.hid hnq
          clear hnq
          go_quiet (fail)
          go_wp2
          go_roundw
          case rel=>exact ⟨j+1,by omega,by go_num,below_drewN hb45 _,fun m h1 h2 h3=>by
           rcases Nat.lt_or_ge m j with h|h
           ·exact HNAM.out m h1 h h3
           ·obtain rfl:m=j:=by omega
            rw [HN.out];exact HNQ.out⟩
          case measure=>simp [intOf];omega
        ·obtain rfl:j=L.length:=by omega
         have hO:O=none:=by
          cases b2 with
          | true=>exact HNN.out (find_no (L:=L) (n:=n1) (fun m h1=>by rw [HQ1.out];exact HNAM.out m h1 h1 rfl))
          | false=>exact HOU.out rfl
         have HO:=Lib.hid hO
         clear hO HNAM hrow4
         go_wp2
         go_roundw
         case rel=>exact ⟨k+1,by omega,by go_num,hb2q,Lib.hid (.inr ⟨HO.out,HDIS.out⟩)⟩
         case measure=>simp [intOf];omega
      ·have hpn:((P.length:Int) != 3)=true:=by simp;omega
       have hy:=HYK.out
       rw [acRead_no hgt hp3] at hy
       subst hy
       obtain ⟨iR,fR,zR⟩:=kRu.cell
       have hbU:=hB2.trans (hb2u.mono hB2.size)
       clear hp3
       go_wp2
       refine bodyPost_ret (v:=.tuple #[.agg #[.int .i64 0,.int .i64 0,.int .i64 0],.bool false]) (by simp [results,Tryz.results62,go_sem,iR]) rfl ⟨_,_,_,rfl,(fun u hu=>by cases hu),?_⟩
       exact ((hbU.setCell (by simp) _).setCell (by simp) _).setCell (by simp) _
    ·have hcmp:(q0.toList == (acWord k).toList)=false:=str_no fun e=>heq e.symm
     have HEQ:=Lib.hid heq
     clear heq
     go_wp2
     go_roundw
     case rel=>exact ⟨k+1,by omega,by go_num,hbr,Lib.hid (by
      rcases HALL.out with h|⟨h1,h2⟩
      ·refine .inl fun j h1 h2=>?_
       rcases Nat.lt_or_ge j k with h3|h3
       ·exact h j h1 h3
       ·obtain rfl:j=k:=by omega
        exact HEQ.out
      ·exact .inr ⟨h1,fun j h3 h4=>h2 j (by omega) h4⟩)⟩
     case measure=>simp [intOf];omega
  ·obtain rfl:k=n:=by omega
   have hfin:O=none:=by
    rcases HALL.out with h|⟨h1,-⟩
    ·exact HNO.out fun j h1 h2=>h j h1 (by have:=HN7.out;omega)
    ·exact h1
   subst hfin
   replace kR:=kR.keep hbr
   obtain ⟨iR,fR,zR⟩:=kR.cell
   go_wp2
   refine bodyPost_ret (v:=.tuple #[.agg #[.int .i64 0,.int .i64 0,.int .i64 0],.bool false]) (by simp [results,Tryz.results62,go_sem,iR]) rfl ⟨_,_,_,rfl,(fun u hu=>by cases hu),?_⟩
   exact ((hbw.setCell (by simp) _).setCell (by simp) _).setCell (by simp) _
end Go.Proofs.YtbljmfcifljkaaaGreatDoor
/-
  ParseAct, the program's and the reference's. Own work.
-/
namespace Go.Proofs.YtbljmfcifljkaaaGreatDoor
open Go.RowKit
set_option maxRecDepth 100000
set_option maxHeartbeats 4000000
def acPars (s:SnI) (T:ByteArray):Option AcI:=if snB s then acParse (axNs s) T else none
def AcRP (o:Option AcI) (w:World) (e:Ending) (w':World):Prop :=
 ∃ x:AcI,e=.returned (.tuple #[acV x,.bool o.isSome])∧x=o.getD ⟨0,0,0⟩∧Below w.heap.size w w'
theorem parseActI_any (s:SnI) (vp ne ni no vf ge gi go:Value) (T:ByteArray) (w:World) (h:SnR w vp ne ni no vf ge gi go s) (hok:SnOk s) (hT:T.size≤1048576) (hpt:PrimeTab w) (ht:PowTab w) (hsp:SplTab w) (hao:AtoTab w) :
  Calls Tryz.prog 25 #[snV s vp ne ni no vf ge gi go,.string T] w (AcRP (acPars s T) w):=by
 have hsn:=fun (u:World) (hu:Below w.heap.size w u)=>isSession_any s vp ne ni no vf ge gi go u (hpt.keep hu) (h.keep hu) hok
 have hat:=fun (u:World) (hu:Below w.heap.size w u) (htw:twoB s.p s.k s.l=true)=>parseAct_any s vp ne ni no vf ge gi go T u (h.keep hu) htw (ht.keep hu) hT (fun u2 h2=>split_any T u2 (hsp.keep (hu.trans (h2.mono hu.size))) (by omega)) (fun x u2 hx h2=>atoi_any x u2 (hao.keep (hu.trans (h2.mono hu.size))) hx)
 unfold snV at hat hsn
 obtain ⟨⟨a1,c1,rfl⟩,⟨⟨a2,c2,rfl⟩,⟨a3,c3,rfl⟩,a4,c4,rfl⟩,⟨a5,c5,rfl⟩,⟨a6,c6,rfl⟩,⟨a7,c7,rfl⟩,a8,c8,rfl⟩:=h.slices
 unfold snV
 have hA1:=alloc_below w (.cells #[.int .i64 s.p,.int .i64 s.k,.int .i64 s.l,.slice a1 s.past.length c1,.int .i64 s.now.wires,.slice a2 s.now.edges.length c2,.slice a3 s.now.ins.length c3,.slice a4 s.now.outs.length c4,.slice a5 s.future.length c5,.int .i64 s.goal.wires,.slice a6 s.goal.edges.length c6,.slice a7 s.goal.ins.length c7,.slice a8 s.goal.outs.length c8] 55)
 have hA2:=alloc_below (w.alloc (.cells #[.int .i64 s.p,.int .i64 s.k,.int .i64 s.l,.slice a1 s.past.length c1,.int .i64 s.now.wires,.slice a2 s.now.edges.length c2,.slice a3 s.now.ins.length c3,.slice a4 s.now.outs.length c4,.slice a5 s.future.length c5,.int .i64 s.goal.wires,.slice a6 s.goal.edges.length c6,.slice a7 s.goal.ins.length c7,.slice a8 s.goal.outs.length c8] 55)) (.cells #[.int .i64 0,.int .i64 0,.int .i64 0] 57)
 have hB:=hA1.trans (hA2.mono hA1.size)
 have kS:=(Bk.new w 55 #[.int .i64 s.p,.int .i64 s.k,.int .i64 s.l,.slice a1 s.past.length c1,.int .i64 s.now.wires,.slice a2 s.now.edges.length c2,.slice a3 s.now.ins.length c3,.slice a4 s.now.outs.length c4,.slice a5 s.future.length c5,.int .i64 s.goal.wires,.slice a6 s.goal.edges.length c6,.slice a7 s.goal.ins.length c7,.slice a8 s.goal.outs.length c8]).keep hA2
 have kR:=Bk.new (w.alloc (.cells #[.int .i64 s.p,.int .i64 s.k,.int .i64 s.l,.slice a1 s.past.length c1,.int .i64 s.now.wires,.slice a2 s.now.edges.length c2,.slice a3 s.now.ins.length c3,.slice a4 s.now.outs.length c4,.slice a5 s.future.length c5,.int .i64 s.goal.wires,.slice a6 s.goal.edges.length c6,.slice a7 s.goal.ins.length c7,.slice a8 s.goal.outs.length c8] 55)) 57 #[.int .i64 0,.int .i64 0,.int .i64 0]
 simp only [World.size_alloc] at kR
 clear hA1 hA2 h
 unfold acPars
 cases hs:snB s with
 | false =>
  rw [hs] at hsn
  have HSN:=Lib.hid hsn
  clear hsn hs hat
  go_enter Tryz.func25,Tryz.ntmps25
  obtain ⟨iS,-,zS⟩:=kS.cell
  go_wp2_with fail
  generalize ((w.alloc (.cells #[.int .i64 s.p,.int .i64 s.k,.int .i64 s.l,.slice a1 s.past.length c1,.int .i64 s.now.wires,.slice a2 s.now.edges.length c2,.slice a3 s.now.ins.length c3,.slice a4 s.now.outs.length c4,.slice a5 s.future.length c5,.int .i64 s.goal.wires,.slice a6 s.goal.edges.length c6,.slice a7 s.goal.ins.length c7,.slice a8 s.goal.outs.length c8] 55)).alloc (.cells #[.int .i64 0,.int .i64 0,.int .i64 0] 57))=u0 at *
  refine (HSN.out _ hB).mono ?_
  rintro q w1 ⟨rfl,hb1⟩
  replace kR:=kR.keep hb1
  have hB1:=hB.trans (hb1.mono hB.size)
  obtain ⟨iR,fR,zR⟩:=kR.cell
  go_wp2
  refine bodyPost_ret (v:=.tuple #[.agg #[.int .i64 0,.int .i64 0,.int .i64 0],.bool false]) (by simp [results,Tryz.results25,go_sem,iR]) rfl ⟨⟨0,0,0⟩,rfl,rfl,?_⟩
  exact ((hB1.setCell (by simp) _).setCell (by simp) _).setCell (by simp) _
 | true =>
  rw [hs] at hsn
  have HAT:=Lib.hid (fun u hu=>hat u hu (snB_two2 hs))
  have HSN:=Lib.hid hsn
  simp only [if_true]
  obtain ⟨O,hO⟩:∃ O,acParse (axNs s) T=O:=⟨_,rfl⟩
  rw [hO] at HAT ⊢
  clear hsn hs hat hO
  cases O
  all_goals
   go_enter Tryz.func25,Tryz.ntmps25
   obtain ⟨iS,-,zS⟩:=kS.cell
   go_wp2_with fail
   generalize ((w.alloc (.cells #[.int .i64 s.p,.int .i64 s.k,.int .i64 s.l,.slice a1 s.past.length c1,.int .i64 s.now.wires,.slice a2 s.now.edges.length c2,.slice a3 s.now.ins.length c3,.slice a4 s.now.outs.length c4,.slice a5 s.future.length c5,.int .i64 s.goal.wires,.slice a6 s.goal.edges.length c6,.slice a7 s.goal.ins.length c7,.slice a8 s.goal.outs.length c8] 55)).alloc (.cells #[.int .i64 0,.int .i64 0,.int .i64 0] 57))=u0 at *
   refine (HSN.out _ hB).mono ?_
   rintro q w1 ⟨rfl,hb1⟩
   clear iS zS
   replace kR:=kR.keep hb1
   replace kS:=kS.keep hb1
   have hB1:=hB.trans (hb1.mono hB.size)
   obtain ⟨iS,-,zS⟩:=kS.cell
   go_wp2_with fail
   refine (HAT.out _ hB1).mono ?_
   rintro q w2 ⟨k,r,a,rfl,hu,hb2⟩
   clear iS zS
   replace kR:=kR.keep hb2
   have hB2:=hB1.trans (hb2.mono hB1.size)
   have hA2:=alloc_below w2 (.cells #[.int .i64 k,.int .i64 r,.int .i64 a] 57)
   have hBA:=hB2.trans (hA2.mono hB2.size)
   obtain ⟨iR,fR,zR⟩:=kR.cell
   have hRX:¬ w.heap.size+1=w2.heap.size:=by omega
   have HU:=Lib.hid hu
   have jR:=fun x y z=>(((((kR.set 0 x).set 1 y).set 2 z)).alloc (.cells #[.int .i64 k,.int .i64 r,.int .i64 a] 57)).cell.1
   clear hu hA2
   go_wp2
   first
    | (refine bodyPost_ret (v:=.tuple #[.agg #[.int .i64 0,.int .i64 0,.int .i64 0],.bool false]) (by simp [results,Tryz.results25,go_sem,jR]) rfl ⟨⟨0,0,0⟩,rfl,rfl,?_⟩;exact (((hB2.setCell (by simp) _).setCell (by simp) _).setCell (by simp) _).alloc (by simp;omega) _)
    | (refine bodyPost_ret (v:=.tuple #[.agg #[.int .i64 k,.int .i64 r,.int .i64 a],.bool true]) (by simp [results,Tryz.results25,go_sem,jR]) rfl ⟨⟨k,r,a⟩,rfl,(HU.out _ rfl).symm,?_⟩;exact (((hB2.setCell (by simp) _).setCell (by simp) _).setCell (by simp) _).alloc (by simp;omega) _)
theorem parseActS_any (s:SnI) (vp ne ni no vf ge gi go:Value) (T:ByteArray) (w:World) (h:SnR w vp ne ni no vf ge gi go s) (hok:SnOk s) (hT:T.size≤1048576) :
  Calls Tryz.prog 24 #[snV s vp ne ni no vf ge gi go,.string T] w (AcRP (acPars s T) w):=by
 have hsn:=fun (u:World) (hu:Below w.heap.size w u)=>snGood_any s vp ne ni no vf ge gi go u (h.keep hu) hok
 have hat:=fun (u:World) (hu:Below w.heap.size w u) (htw:twoB s.p s.k s.l=true)=>snParse_any s vp ne ni no vf ge gi go T u (h.keep hu) htw hT
 unfold snV at hat hsn
 obtain ⟨⟨a1,c1,rfl⟩,⟨⟨a2,c2,rfl⟩,⟨a3,c3,rfl⟩,a4,c4,rfl⟩,⟨a5,c5,rfl⟩,⟨a6,c6,rfl⟩,⟨a7,c7,rfl⟩,a8,c8,rfl⟩:=h.slices
 unfold snV
 have hA1:=alloc_below w (.cells #[.int .i64 s.p,.int .i64 s.k,.int .i64 s.l,.slice a1 s.past.length c1,.int .i64 s.now.wires,.slice a2 s.now.edges.length c2,.slice a3 s.now.ins.length c3,.slice a4 s.now.outs.length c4,.slice a5 s.future.length c5,.int .i64 s.goal.wires,.slice a6 s.goal.edges.length c6,.slice a7 s.goal.ins.length c7,.slice a8 s.goal.outs.length c8] 55)
 have hA2:=alloc_below (w.alloc (.cells #[.int .i64 s.p,.int .i64 s.k,.int .i64 s.l,.slice a1 s.past.length c1,.int .i64 s.now.wires,.slice a2 s.now.edges.length c2,.slice a3 s.now.ins.length c3,.slice a4 s.now.outs.length c4,.slice a5 s.future.length c5,.int .i64 s.goal.wires,.slice a6 s.goal.edges.length c6,.slice a7 s.goal.ins.length c7,.slice a8 s.goal.outs.length c8] 55)) (.cells #[.int .i64 0,.int .i64 0,.int .i64 0] 57)
 have hB:=hA1.trans (hA2.mono hA1.size)
 have kS:=(Bk.new w 55 #[.int .i64 s.p,.int .i64 s.k,.int .i64 s.l,.slice a1 s.past.length c1,.int .i64 s.now.wires,.slice a2 s.now.edges.length c2,.slice a3 s.now.ins.length c3,.slice a4 s.now.outs.length c4,.slice a5 s.future.length c5,.int .i64 s.goal.wires,.slice a6 s.goal.edges.length c6,.slice a7 s.goal.ins.length c7,.slice a8 s.goal.outs.length c8]).keep hA2
 have kR:=Bk.new (w.alloc (.cells #[.int .i64 s.p,.int .i64 s.k,.int .i64 s.l,.slice a1 s.past.length c1,.int .i64 s.now.wires,.slice a2 s.now.edges.length c2,.slice a3 s.now.ins.length c3,.slice a4 s.now.outs.length c4,.slice a5 s.future.length c5,.int .i64 s.goal.wires,.slice a6 s.goal.edges.length c6,.slice a7 s.goal.ins.length c7,.slice a8 s.goal.outs.length c8] 55)) 57 #[.int .i64 0,.int .i64 0,.int .i64 0]
 simp only [World.size_alloc] at kR
 clear hA1 hA2 h
 unfold acPars
 cases hs:snB s with
 | false =>
  rw [hs] at hsn
  have HSN:=Lib.hid hsn
  clear hsn hs hat
  go_enter Tryz.func24,Tryz.ntmps24
  obtain ⟨iS,-,zS⟩:=kS.cell
  go_wp2_with fail
  generalize ((w.alloc (.cells #[.int .i64 s.p,.int .i64 s.k,.int .i64 s.l,.slice a1 s.past.length c1,.int .i64 s.now.wires,.slice a2 s.now.edges.length c2,.slice a3 s.now.ins.length c3,.slice a4 s.now.outs.length c4,.slice a5 s.future.length c5,.int .i64 s.goal.wires,.slice a6 s.goal.edges.length c6,.slice a7 s.goal.ins.length c7,.slice a8 s.goal.outs.length c8] 55)).alloc (.cells #[.int .i64 0,.int .i64 0,.int .i64 0] 57))=u0 at *
  refine (HSN.out _ hB).mono ?_
  rintro q w1 ⟨rfl,hb1⟩
  replace kR:=kR.keep hb1
  have hB1:=hB.trans (hb1.mono hB.size)
  obtain ⟨iR,fR,zR⟩:=kR.cell
  go_wp2
  refine bodyPost_ret (v:=.tuple #[.agg #[.int .i64 0,.int .i64 0,.int .i64 0],.bool false]) (by simp [results,Tryz.results24,go_sem,iR]) rfl ⟨⟨0,0,0⟩,rfl,rfl,?_⟩
  exact ((hB1.setCell (by simp) _).setCell (by simp) _).setCell (by simp) _
 | true =>
  rw [hs] at hsn
  have HAT:=Lib.hid (fun u hu=>hat u hu (snB_two2 hs))
  have HSN:=Lib.hid hsn
  simp only [if_true]
  obtain ⟨O,hO⟩:∃ O,acParse (axNs s) T=O:=⟨_,rfl⟩
  rw [hO] at HAT ⊢
  clear hsn hs hat hO
  cases O
  all_goals
   go_enter Tryz.func24,Tryz.ntmps24
   obtain ⟨iS,-,zS⟩:=kS.cell
   go_wp2_with fail
   generalize ((w.alloc (.cells #[.int .i64 s.p,.int .i64 s.k,.int .i64 s.l,.slice a1 s.past.length c1,.int .i64 s.now.wires,.slice a2 s.now.edges.length c2,.slice a3 s.now.ins.length c3,.slice a4 s.now.outs.length c4,.slice a5 s.future.length c5,.int .i64 s.goal.wires,.slice a6 s.goal.edges.length c6,.slice a7 s.goal.ins.length c7,.slice a8 s.goal.outs.length c8] 55)).alloc (.cells #[.int .i64 0,.int .i64 0,.int .i64 0] 57))=u0 at *
   refine (HSN.out _ hB).mono ?_
   rintro q w1 ⟨rfl,hb1⟩
   clear iS zS
   replace kR:=kR.keep hb1
   replace kS:=kS.keep hb1
   have hB1:=hB.trans (hb1.mono hB.size)
   obtain ⟨iS,-,zS⟩:=kS.cell
   go_wp2_with fail
   refine (HAT.out _ hB1).mono ?_
   rintro q w2 ⟨k,r,a,rfl,hu,hb2⟩
   clear iS zS
   replace kR:=kR.keep hb2
   have hB2:=hB1.trans (hb2.mono hB1.size)
   have hA2:=alloc_below w2 (.cells #[.int .i64 k,.int .i64 r,.int .i64 a] 57)
   have hBA:=hB2.trans (hA2.mono hB2.size)
   obtain ⟨iR,fR,zR⟩:=kR.cell
   have hRX:¬ w.heap.size+1=w2.heap.size:=by omega
   have HU:=Lib.hid hu
   have jR:=fun x y z=>(((((kR.set 0 x).set 1 y).set 2 z)).alloc (.cells #[.int .i64 k,.int .i64 r,.int .i64 a] 57)).cell.1
   clear hu hA2
   go_wp2
   first
    | (refine bodyPost_ret (v:=.tuple #[.agg #[.int .i64 0,.int .i64 0,.int .i64 0],.bool false]) (by simp [results,Tryz.results24,go_sem,jR]) rfl ⟨⟨0,0,0⟩,rfl,rfl,?_⟩;exact (((hB2.setCell (by simp) _).setCell (by simp) _).setCell (by simp) _).alloc (by simp;omega) _)
    | (refine bodyPost_ret (v:=.tuple #[.agg #[.int .i64 k,.int .i64 r,.int .i64 a],.bool true]) (by simp [results,Tryz.results24,go_sem,jR]) rfl ⟨⟨k,r,a⟩,rfl,(HU.out _ rfl).symm,?_⟩;exact (((hB2.setCell (by simp) _).setCell (by simp) _).setCell (by simp) _).alloc (by simp;omega) _)
end Go.Proofs.YtbljmfcifljkaaaGreatDoor
