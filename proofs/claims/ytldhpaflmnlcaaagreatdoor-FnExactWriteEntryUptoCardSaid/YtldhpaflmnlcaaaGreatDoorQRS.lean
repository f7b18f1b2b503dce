/-
  The reference's joRecover. Own work.
-/
import Derived.Test.YtldhpaflmnlcaaaGreatDoorQRI
import Derived.Test.YtldhpaflmnlcaaaGreatDoorQPeS
set_option linter.all false
set_option maxRecDepth 100000
set_option maxHeartbeats 8000000
namespace Go.Proofs.YtldhpaflmnlcaaaGreatDoor
open Go.RowKit
def NoNl (s:ByteArray) (k j:Nat):Prop:=(10:UInt8) ∉ (s.data.toList.drop k).take (j - k)
theorem noNl_step {s:ByteArray} {k j:Nat} (hk:k≤j) (hj:j<s.size) (h:NoNl s k j) (hne:¬ s[j]=10):NoNl s k (j+1):=by
 unfold NoNl at *
 have hlt:j - k<(s.data.toList.drop k).length:=by simp;omega
 rw [show j+1 - k=(j - k)+1 by omega,List.take_succ_eq_append_getElem hlt]
 intro hm
 rcases List.mem_append.1 hm with hm|hm
 ·exact h hm
 ·simp only [List.mem_singleton,List.getElem_drop] at hm
  apply hne
  rw [hm]
  simp only [show k+(j - k)=j by omega]
  rfl
theorem noNl_end {s:ByteArray} {k:Nat} (hk:k≤s.size) (h:NoNl s k s.size):Lib.cut (s.data.toList.drop k) [10]=(s.data.toList.drop k,[],false):=by
 unfold NoNl at h
 rw [List.take_of_length_le (by simp)] at h
 rcases cut_split 10 (s.data.toList.drop k) with ⟨hc,_⟩|⟨x,r,hxr,_,_⟩
 ·exact hc
 ·rw [hxr] at h;simp at h
theorem noNl_hit {s:ByteArray} {k j:Nat} (hk:k≤j) (hj:j<s.size) (h:NoNl s k j) (hb:s[j]=10) :
  Lib.cut (s.data.toList.drop k) [10]=((s.data.toList.drop k).take (j - k),s.data.toList.drop (j+1),true):=by
 have e:s.data.toList.drop k=(s.data.toList.drop k).take (j - k) ++ 10 :: s.data.toList.drop (j+1):=by
  have h1:=(List.take_append_drop (j - k) (s.data.toList.drop k)).symm
  rw [List.drop_drop,show k+(j - k)=j by omega,drop_step s j hj,hb] at h1
  exact h1
 have key:∀ x r x' r':List UInt8,x ++ 10 :: r=x' ++ 10 :: r' → (10:UInt8) ∉ x → (10:UInt8) ∉ x' → x=x'∧r=r':=by
  intro x
  induction x with
  | nil =>
   intro r x' r' he _ hx'
   cases x' with
   | nil=>simp at he;exact ⟨rfl,he⟩
   | cons c x'=>simp at he;exact absurd (by rw [← he.1];simp) hx'
  | cons c x ih =>
   intro r x' r' he hx hx'
   cases x' with
   | nil=>simp at he;exact absurd (by rw [he.1];simp) hx
   | cons c' x' =>
    simp only [List.cons_append,List.cons.injEq] at he
    obtain ⟨h1,h2⟩:=ih r x' r' he.2 (fun hm=>hx (List.mem_cons_of_mem _ hm)) (fun hm=>hx' (List.mem_cons_of_mem _ hm))
    exact ⟨by rw [he.1,h1],h2⟩
 rcases cut_split 10 (s.data.toList.drop k) with ⟨_,hno⟩|⟨x,r,hxr,hx,hc⟩
 ·rw [e] at hno;simp at hno
 ·obtain ⟨h1,h2⟩:=key x r _ _ (hxr.symm.trans e) hx h
  rw [hc,h1,h2]
theorem markL_hit {l:List UInt8} {m:Nat} (h0:0<m) (h:l[m]?=some 35):markL l m=m:=by
 obtain ⟨k,rfl⟩:∃ k,m=k+1:=⟨m - 1,by omega⟩
 unfold markL
 rw [if_pos h]
theorem markL_miss {l:List UInt8} {m:Nat} (h0:0<m) (h:l[m]? ≠ some 35):markL l m=markL l (m - 1):=by
 obtain ⟨k,rfl⟩:∃ k,m=k+1:=⟨m - 1,by omega⟩
 conv=>lhs;unfold markL
 rw [if_neg h,Nat.add_sub_cancel]
def RjSt (s:ByteArray) (R:List Df × Nat × Nat) (w wr:World) (n k:Nat) (L:List Df) (v:Value):Prop :=
 RcAt (w.heap.size+1) wr v L n k∧DfsOwn wr (w.heap.size+1+1) v L∧good L=true∧n≤60∧k≤s.size∧Hid (R=recGo (60 - n) L (s.data.toList.drop k) n k)∧Below (w.heap.size+1) (w.alloc (.cells #[.slice none 0 0,.int .i64 0,.int .i64 0] 126)) wr
end Go.Proofs.YtldhpaflmnlcaaaGreatDoor
/-
  The reference's joRecover, walked. Own work.
-/
namespace Go.Proofs.YtldhpaflmnlcaaaGreatDoor
open Go.RowKit
theorem joRecover_any (s:ByteArray) (w:World) (hs:s.size≤60000) :
  Calls Tryz.prog 96 #[.string s] w (RjPost (recL s) w):=by
 obtain ⟨R,hR⟩:∃ R,recL s=R:=⟨_,rfl⟩
 rw [hR]
 have H0:Hid (R=recGo (60 - 0) [] (s.data.toList.drop 0) 0 0):=hR.symm
 clear hR
 go_enter Tryz.func96,Tryz.ntmps96
 go_wp2
 go_loopw [4] (fun _ wr=>∃ (n k:Nat) (L:List Df) (v:Value),RjSt s R w wr n k L v) (fun _ wr=>leftOf wr (w.heap.size+1))
 case atStart =>
  obtain ⟨a0,a1,a2,af,_⟩:=res3 (w:=w.alloc (.cells #[.slice none 0 0,.int .i64 0,.int .i64 0] 126)) (a:=.slice none 0 0) (b:=.int .i64 0) (c:=.int .i64 0) (t:=126) (Below.refl _ _)
  simp only [World.size_alloc] at a0 a1 a2 af
  refine ⟨0,0,[],.slice none 0 0,⟨a0,a1,a2,af,⟨_,_,rfl,Nat.zero_le _,fun i hi=>absurd hi (Nat.not_lt_zero _)⟩⟩,dfsOwn_none _ _,by decide,by omega,Nat.zero_le _,H0,?_⟩
  exact (Below.refl (w.heap.size+1) (w.alloc (.cells #[.slice none 0 0,.int .i64 0,.int .i64 0] 126))).alloc (by simp) _
 case round =>
  obtain ⟨n,k,L,v,hst⟩:=hrel
  obtain ⟨⟨c0,c1,c2,cf,hv⟩,hown,hgd,hn,hk,HR,hbel⟩:=id hst
  obtain ⟨r0,r1,r2,rf,hz,hbw⟩:=res3 hbel
  obtain ⟨be,hbe⟩:∃ be,be=w.heap.size+1:=⟨_,rfl⟩
  rw [← hbe] at c0 c1 c2 cf ⊢
  have hn1:¬ w.heap.size=be:=by omega
  have hn2:¬ be=w.heap.size:=by omega
  have hbz:=cell_lt c0
  have hrb0:RcAt be wr v L n k:=⟨c0,c1,c2,cf,hv⟩
  obtain ⟨av,cv,rfl,_,_⟩:=id hv
  have hl1:w.heap.size<w.heap.size+1+1:=by omega
  have hlo:=leftOf_at hst.1
  by_cases h60:n<60
  ·have g60:(n:Int)<60:=by omega
   have hf:60 - n=(60 - (n+1))+1:=by omega
   rw [hf] at HR
   have HF:=Lib.hid hf
   have HOWN:=Lib.hid hown
   have HST:=Lib.hid hst
   have hrb:=hrb0
   have HBE:=Lib.hid hbe
   clear hrb0
   clear hf hst hown hbe
   go_wp2
   go_loop [4] (fun i=>∃ j:Nat,k≤j∧j≤s.size∧i=.int .i64 j∧NoNl s k j) (fun i=>s.size - (intOf i).toNat)
   case atStart=>exact ⟨k,Nat.le_refl _,hk,rfl,by simp [NoNl]⟩
   case round =>
    obtain ⟨j,hkj,hj,rfl,hno⟩:=hrel
    by_cases hlt:j<s.size
    ·have gj:(j:Int)<(s.size:Int):=by omega
     by_cases hb10:s[j]=10
     ·have hbb:((s[j].toNat:Int) != 10)=false:=by rw [hb10];rfl
      have hcut:=noNl_hit hkj hlt hno hb10
      obtain ⟨x,hx⟩:∃ x,(s.data.toList.drop k).take (j - k)=x:=⟨_,rfl⟩
      rw [hx] at hcut
      have hxl:x.length=j - k:=by rw [← hx];simp;omega
      have hline:s.extract k (j+1)=bytesOf (x ++ [10]):=by
       rw [← bytes_cut,cutL_snoc s k j hkj hlt,hb10,cutL_eq,List.drop_take,hx]
      obtain ⟨line,hln⟩:∃ line,bytesOf (x ++ [10])=line:=⟨_,rfl⟩
      rw [hln] at hline
      have hls:line.size=x.length+1:=by rw [← hln,bytes_len];simp
      have HL:=Lib.hid hline
      have e1:IntKind.i64.wrap ((j:Int)+1)=(j:Int)+1:=IntWalk.i64_in _ (by omega)
      have gj1:(j:Int)+1≤(s.size:Int):=by omega
      have gk1:(k:Int)≤(j:Int)+1:=by omega
      have HCUT:=Lib.hid hcut
      have HX:=Lib.hid hx
      have HLN:=Lib.hid hln
      clear hno hcut hx hline hln hb10
      go_wp2
      have hmin:((min (j+1) s.size - k:Nat):Int) - 1=(x.length:Int):=by omega
      rw [hmin]
      try rw [HL.out]
      have hget:∀ m (hm:m<line.size),(x ++ [10])[m]?=some line[m]:=fun m hm=>by
       have h:=HLN.out
       subst h
       rw [bytes_len] at hm
       rw [List.getElem?_eq_getElem hm]
       rfl
      have HGET:=Lib.hid hget
      have HXL:=Lib.hid hxl
      have HLS:=Lib.hid hls
      clear hget hmin e1 gj1 gk1 hbb hxl hls
      go_loop [6] (fun i=>∃ m:Nat,m≤x.length∧i=.int .i64 m∧Hid (markL (x ++ [10]) x.length=markL (x ++ [10]) m)) (fun i=>(intOf i).toNat)
      case atStart=>exact ⟨x.length,Nat.le_refl _,rfl,(rfl:Hid (markL (x ++ [10]) x.length=markL (x ++ [10]) x.length))⟩
      case round =>
       obtain ⟨m,hm,rfl,HM⟩:=hrel
       cases m with
       | zero =>
        have hst:stepL L x=none:=by rw [← step_eq];unfold stepM;rw [HM.out];rfl
        have hnx:nextL L (s.data.toList.drop k)=none:=by unfold nextL;rw [HCUT.out];simp [hst]
        have HE:Hid (R=(L,n,k)):=(show _=_ by rw [HR.out,recGo_stop hnx])
        clear hst hnx HR
        go_wp2
        refine bodyPost_ret (v:=.agg #[.slice av L.length cv,.int .i64 (n:Int),.int .i64 (k:Int)]) (by simp [results,Tryz.results96,go_sem,r0,r1,r2,rf,hz]) rfl ?_
        rw [HE.out]
        refine ⟨_,rfl,(dfs_low (dfs_low (dfs_low HOWN.out hl1) hl1) hl1).mono (by omega),?_⟩
        (repeat (first|(with_reducible refine Below.alloc ?_ ?_ _;rotate_left;(first|omega|(simp;done)|(simp;omega)))|(with_reducible refine Below.setCell ?_ ?_ _;rotate_left;(first|exact Nat.le_refl _|(simp;done)|(simp;omega)))|(with_reducible refine Below.drew ?_)));exact hbw
       | succ q =>
        have hql:q+1<line.size:=by have:=HLS.out;omega
        have gq:(q:Int)+1<(line.size:Int):=by omega
        have hq6:q≤60000:=by have:=HXL.out;omega
        by_cases h35:line[q+1]=35
        ·have hbb2:((line[q+1].toNat:Int) != 35)=false:=by rw [h35];rfl
         have hM:markL (x ++ [10]) x.length=q+1:=HM.out.trans (markL_hit (by omega) (by rw [HGET.out _ hql,h35]))
         have hstM:stepL L x=recS L (bytesOf ((x ++ [10]).take q)) (bytesOf (x ++ [10])):=by
          rw [← step_eq];unfold stepM;rw [hM,if_neg (by omega),Nat.add_sub_cancel]
         have hnxM:nextL L (s.data.toList.drop k)=(stepL L x).map (fun R=>(R,x.length+1)):=by unfold nextL;rw [HCUT.out];simp
         obtain ⟨X,hX⟩:∃ X,bytesOf ((x ++ [10]).take q)=X:=⟨_,rfl⟩
         have hXl:line.extract 0 q=X:=by rw [← HLN.out,ext_take,hX]
         have hXz:X.size≤60000:=by rw [← hX,bytes_len];simp;omega
         rw [hX,HLN.out] at hstM
         rw [hstM] at hnxM
         have HXL2:=Lib.hid hXl
         have HNX:=Lib.hid hnxM
         have e2:IntKind.i64.wrap ((q:Int)+1 - 1)=(q:Int):=by rw [show (q:Int)+1 - 1=q by omega];exact IntWalk.i64_in _ (by omega)
         have e3:IntKind.i64.wrap (q:Int)=(q:Int):=IntWalk.i64_in _ (by omega)
         have gq2:(q:Int)≤(line.size:Int):=by omega
         obtain ⟨hLo,hLn⟩:=goodLib_okP hgd
         have hjr:=joRead_any _ L X wr hv hgd (by omega)
         clear h35 hM hstM hnxM hXl hX
         cases he:entL L X with
         | none =>
          rw [he] at hjr
          have HJ:=Lib.hid hjr
          have HE:Hid (R=(L,n,k)):=(show _=_ by rw [HR.out,recGo_stop (by rw [HNX.out];simp [recS,he])])
          clear hjr he HR
          go_wp2_with fail
          rw [HXL2.out]
          refine HJ.out.mono ?_
          rintro e5 w2 ⟨v2,rfl,ho2,hb2⟩
          obtain ⟨a2,c2',rfl⟩:=ho2.slice
          obtain ⟨d0,d1,d2,df,hv2⟩:=hrb.keep hb2
          have hB2:=hbel.trans (hb2.mono (by have:=hbel.size;simpa using this))
          clear r0 r1 r2 rf hz hbw c0 c1 c2 cf
          obtain ⟨r0,r1,r2,rf,hz,hbw⟩:=res3 hB2
          have ho9:=HOWN.out.keep hb2
          have hbz2:=cell_lt d0
          go_wp2
          refine bodyPost_ret (v:=.agg #[.slice av L.length cv,.int .i64 (n:Int),.int .i64 (k:Int)]) (by simp [results,Tryz.results96,go_sem,r0,r1,r2,rf,hz]) rfl ?_
          rw [HE.out]
          refine ⟨_,rfl,((dfs_low (dfs_low (dfs_low ho9 hl1) hl1) hl1).keep (alloc_below _ _)).mono (by omega),?_⟩
          (repeat (first|(with_reducible refine Below.alloc ?_ ?_ _;rotate_left;(first|omega|(simp;done)|(simp;omega)))|(with_reducible refine Below.setCell ?_ ?_ _;rotate_left;(first|exact Nat.le_refl _|(simp;done)|(simp;omega)))|(with_reducible refine Below.drew ?_)));exact hbw
         | some e =>
          rw [he] at hjr
          have HJ:=Lib.hid hjr
          have hee:=ent_ok hgd (by omega) he
          obtain ⟨R2,hR2,_⟩:=ent_parts he
          have HA:=Lib.hid hR2
          by_cases heq:recT X=line
          ·have hn':nextL L (s.data.toList.drop k)=some (R2,x.length+1):=by rw [HNX.out];simp [recS,he,heq,hR2]
           have hkj1:k+(x.length+1)=j+1:=by have:=HXL.out;omega
           have HS:Hid (R=recGo (60 - (n+1)) R2 (s.data.toList.drop (j+1)) (n+1) (j+1)):=(show _=_ by rw [HR.out,recGo_step hn',List.drop_drop,hkj1])
           have HG2:=Lib.hid (applyE_good hR2)
           have HEQ:=Lib.hid heq
           have e1:IntKind.i64.wrap ((j:Int)+1)=(j:Int)+1:=IntWalk.i64_in _ (by omega)
           have e4:IntKind.i64.wrap ((n:Int)+1)=(n:Int)+1:=IntWalk.i64_in _ (by omega)
           clear hjr he HR heq hR2 hn' hkj1
           go_wp2_with fail
           rw [HXL2.out]
           refine HJ.out.mono ?_
           rintro e5 w2 ⟨v2,rfl,ho2,hb2⟩
           simp only [Option.isSome_some,Option.getD_some] at ho2 ⊢
           obtain ⟨a2,c2',rfl⟩:=ho2.slice
           obtain ⟨d0,d1,d2,df,hv2⟩:=hrb.keep hb2
           have hB2:=hbel.trans (hb2.mono (by have:=hbel.size;simpa using this))
           have hz2:=hB2.size
           simp only [World.size_alloc] at hz2
           clear c0 c1 c2 cf
           go_wp2_with fail
           refine (joRecord_any X _ (by omega)).mono ?_
           rintro e6 w3 ⟨rfl,hb3⟩
           rw [HEQ.out]
           have hC3:Below (w2.heap.size+1) (w2.alloc (.cells #[.int .i64 e.kind,.string e.name,.string e.to,.slice a2 e.body.length c2'] 54)) w3:=hb3.mono (by simp)
           obtain ⟨y0,y1,y2,y3,hyz,hb23⟩:=box4 hC3
           have hB3:=hB2.trans (hb23.mono hz2)
           obtain ⟨f0,f1,f2,ff,hv3⟩:=(hrb.keep hb2).keep hb23
           have hz3:=hb23.size
           have ho3:=ho2.keep hb23
           have hbz3:=cell_lt f0
           clear d0 d1 d2 df
           go_wp2_with fail
           refine (specApply_any _ _ L e _ hv3 hLn hLo ho3.at hee).mono ?_
           rintro e7 w4 ⟨v4,rfl,ho4,hb4⟩
           rw [HA.out] at ho4 ⊢
           simp only [Option.isSome_some,Option.getD_some] at ho4 ⊢
           obtain ⟨a4,c4,rfl,_,_⟩:=id ho4.at
           obtain ⟨g0,g1,g2,gf,hv4⟩:=((hrb.keep hb2).keep hb23).keep hb4
           have hB4:=hB3.trans (hb4.mono (by omega))
           have hz4:=hb4.size
           have hbz4:=cell_lt g0
           clear f0 f1 f2 ff y0 y1 y2 y3 r0 r1 r2 rf hz hbw
           have hbl:be<w3.heap.size:=hbz3
           have hbe1:w.heap.size+1≤be:=by have:=HBE.out;omega
           have ho5:DfsOwn (((w4.setCell ⟨be,0,none⟩ (.slice a4 R2.length c4)).setCell ⟨be,1,none⟩ (.int .i64 ((n:Int)+1))).setCell ⟨be,2,none⟩ (.int .i64 ((j:Int)+1))) w3.heap.size (.slice a4 R2.length c4) R2:=dfs_low (dfs_low (dfs_low ho4 hbl) hbl) hbl
           have hB5:Below (w.heap.size+1) (w.alloc (.cells #[.slice none 0 0,.int .i64 0,.int .i64 0] 126)) (((w4.setCell ⟨be,0,none⟩ (.slice a4 R2.length c4)).setCell ⟨be,1,none⟩ (.int .i64 ((n:Int)+1))).setCell ⟨be,2,none⟩ (.int .i64 ((j:Int)+1))):=((hB4.setCell hbe1 _).setCell hbe1 _).setCell hbe1 _
           have hrc:RcAt be (((w4.setCell ⟨be,0,none⟩ (.slice a4 R2.length c4)).setCell ⟨be,1,none⟩ (.int .i64 ((n:Int)+1))).setCell ⟨be,2,none⟩ (.int .i64 ((j:Int)+1))) (.slice a4 R2.length c4) R2 (n+1) (j+1):=by
            refine ⟨?_,?_,?_,?_,ho5.at⟩
            ·go_simp
            ·go_simp
            ·go_simp
            ·intro i;have:=gf i;go_simp
           have HRC:=Lib.hid hrc
           have HO5:=Lib.hid ho5
           have HB5:=Lib.hid hB5
           have gf0:=gf 0
           have gf1:=gf 1
           have gf2:=gf 2
           clear hrc ho5 hB5 ho4 hB4 hB3 hb4 hb23 hb3 hb2 hB2 hv2 hv3 hv4
           go_wp2
           go_roundw
           case rel=>exact ⟨n+1,j+1,R2,_,by rw [← HBE.out];exact HRC.out,HO5.out.mono (by have:=HBE.out;omega),HG2.out,by omega,by omega,HS,HB5.out⟩
           case measure=>rw [← HBE.out] at hlo;rw [leftOf_at HRC.out,hlo];omega
          ·have HE:Hid (R=(L,n,k)):=(show _=_ by rw [HR.out,recGo_stop (by rw [HNX.out];simp [recS,he,heq])])
           have g9:=str_ne heq
           clear hjr he HR heq
           go_wp2_with fail
           rw [HXL2.out]
           refine HJ.out.mono ?_
           rintro e5 w2 ⟨v2,rfl,ho2,hb2⟩
           simp only [Option.isSome_some,Option.getD_some] at ho2 ⊢
           obtain ⟨a2,c2',rfl⟩:=ho2.slice
           obtain ⟨d0,d1,d2,df,hv2⟩:=hrb.keep hb2
           have hB2:=hbel.trans (hb2.mono (by have:=hbel.size;simpa using this))
           have hz2:=hB2.size
           simp only [World.size_alloc] at hz2
           clear c0 c1 c2 cf
           go_wp2_with fail
           refine (joRecord_any X _ (by omega)).mono ?_
           rintro e6 w3 ⟨rfl,hb3⟩
           have hb23:=(alloc_below w2 (.cells #[.int .i64 e.kind,.string e.name,.string e.to,.slice a2 e.body.length c2'] 54)).trans (hb3.mono (by simp))
           have hB3:=hB2.trans (hb23.mono hz2)
           obtain ⟨f0,f1,f2,ff,hv3⟩:=(hrb.keep hb2).keep hb23
           have ho9:=(HOWN.out.keep hb2).keep hb23
           clear r0 r1 r2 rf hz hbw d0 d1 d2 df
           obtain ⟨r0,r1,r2,rf,hz,hbw⟩:=res3 hB3
           have hbz3:=cell_lt f0
           go_wp2
           refine bodyPost_ret (v:=.agg #[.slice av L.length cv,.int .i64 (n:Int),.int .i64 (k:Int)]) (by simp [results,Tryz.results96,go_sem,r0,r1,r2,rf,hz]) rfl ?_
           rw [HE.out]
           refine ⟨_,rfl,((dfs_low (dfs_low (dfs_low ho9 hl1) hl1) hl1)).mono (by omega),?_⟩
           (repeat (first|(with_reducible refine Below.alloc ?_ ?_ _;rotate_left;(first|omega|(simp;done)|(simp;omega)))|(with_reducible refine Below.setCell ?_ ?_ _;rotate_left;(first|exact Nat.le_refl _|(simp;done)|(simp;omega)))|(with_reducible refine Below.drew ?_)));exact hbw
        ·have hne:((line[q+1].toNat:Int) != 35)=true:=by
          have:((line[q+1].toNat:Int) == ((35:Nat):Int))=false:=by rw [u8_beq _ 35 (by omega)];simpa using h35
          simpa [bne] using this
         have HM2:Hid (markL (x ++ [10]) x.length=markL (x ++ [10]) q):=HM.out.trans (markL_miss (by omega) (by rw [HGET.out _ hql];simpa using h35))
         clear h35
         go_wp2
         go_round
         case rel=>exact ⟨q,by omega,by go_num,HM2⟩
         case measure=>simp [intOf]
     ·have hbb:((s[j].toNat:Int) != 10)=true:=by
       have:((s[j].toNat:Int) == ((10:Nat):Int))=false:=by rw [u8_beq _ 10 (by omega)];simpa using hb10
       simpa [bne] using this
      have HNO:=Lib.hid (noNl_step hkj hlt hno hb10)
      clear hno hb10
      go_wp2
      go_round
      case rel=>exact ⟨j+1,by omega,by omega,by go_num,HNO.out⟩
      case measure=>simp [intOf];omega
    ·obtain rfl:j=s.size:=by omega
     have hcut:=noNl_end hk hno
     have hnx:nextL L (s.data.toList.drop k)=none:=by unfold nextL;rw [hcut];simp
     have HE:Hid (R=(L,n,k)):=(show _=_ by rw [HR.out,recGo_stop hnx])
     clear hcut hnx hno HR
     go_wp2
     refine bodyPost_ret (v:=.agg #[.slice av L.length cv,.int .i64 (n:Int),.int .i64 (k:Int)]) (by simp [results,Tryz.results96,go_sem,r0,r1,r2,rf,hz]) rfl ?_
     rw [HE.out]
     refine ⟨_,rfl,(dfs_low (dfs_low (dfs_low HOWN.out hl1) hl1) hl1).mono (by omega),?_⟩
     (repeat (first|(with_reducible refine Below.alloc ?_ ?_ _;rotate_left;(first|omega|(simp;done)|(simp;omega)))|(with_reducible refine Below.setCell ?_ ?_ _;rotate_left;(first|exact Nat.le_refl _|(simp;done)|(simp;omega)))|(with_reducible refine Below.drew ?_)));exact hbw
  ·have hn60:n=60:=by omega
   subst hn60
   have HE:Hid (R=(L,60,k)):=(show _=_ by rw [HR.out];rfl)
   have HOWN:=Lib.hid hown
   clear HR hbe hlo hst hown
   go_wp2
   refine bodyPost_ret (v:=.agg #[.slice av L.length cv,.int .i64 (60:Int),.int .i64 (k:Int)]) (by simp [results,Tryz.results96,go_sem,r0,r1,r2,rf,hz]) rfl ?_
   rw [HE.out]
   refine ⟨_,rfl,(dfs_low (dfs_low (dfs_low HOWN.out hl1) hl1) hl1).mono (by omega),?_⟩
   (repeat (first|(with_reducible refine Below.alloc ?_ ?_ _;rotate_left;(first|omega|(simp;done)|(simp;omega)))|(with_reducible refine Below.setCell ?_ ?_ _;rotate_left;(first|exact Nat.le_refl _|(simp;done)|(simp;omega)))|(with_reducible refine Below.drew ?_)));exact hbw
end Go.Proofs.YtldhpaflmnlcaaaGreatDoor
