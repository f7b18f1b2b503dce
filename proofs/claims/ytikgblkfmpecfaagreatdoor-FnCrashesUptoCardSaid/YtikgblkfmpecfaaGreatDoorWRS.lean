/-
  The reference's joRecover. Own work.
-/
import Derived.Test.YtikgblkfmpecfaaGreatDoorWRI
import Derived.Test.YtikgblkfmpecfaaGreatDoorWPS
set_option linter.all false
set_option maxRecDepth 100000
set_option maxHeartbeats 8000000
namespace Go.Proofs.YtikgblkfmpecfaaGreatDoor
open Go.RowKit
def zT (s:ByteArray) (k j:Nat):Prop:=(10:UInt8) ∉ (s.data.toList.drop k).take (j-k)
theorem af5 {s:ByteArray} {k j:Nat} (hk:k<=j) (hj:j<s.size) (h:zT s k j) (hne:¬s[j]=10):zT s k (j+1):=by
 unfold zT at *;have hlt:j-k<(s.data.toList.drop k).length:=by simp;omega
 rw[show j+1-k=(j-k)+1 by omega,List.take_succ_eq_append_getElem hlt];intro hm;rcases List.mem_append.1 hm with hm|hm
 ·exact h hm
 ·simp only[List.mem_singleton,List.getElem_drop]at hm;apply hne;rw[hm];simp only[show k+(j-k)=j by omega];rfl
theorem af6 {s:ByteArray} {k:Nat} (hk:k<=s.size) (h:zT s k s.size):Lib.cut (s.data.toList.drop k) [10]=(s.data.toList.drop k,[],false):=by
 unfold zT at h;rw[List.take_of_length_le (by simp)]at h;rcases sD 10 (s.data.toList.drop k)with⟨hc,_⟩|⟨x,r,hxr,_,_⟩
 ·exact hc
 ·rw[hxr]at h;simp at h
theorem af7 {s:ByteArray} {k j:Nat} (hk:k<=j) (hj:j<s.size) (h:zT s k j) (hb:s[j]=10) :
  Lib.cut (s.data.toList.drop k) [10]=((s.data.toList.drop k).take (j-k),s.data.toList.drop (j+1),true):=by
 have e:s.data.toList.drop k=(s.data.toList.drop k).take (j-k)++10::s.data.toList.drop (j+1):=by
  have h1:=(List.take_append_drop (j-k) (s.data.toList.drop k)).symm;rw[List.drop_drop,show k+(j-k)=j by omega,drop_step s j hj,hb]at h1;exact h1
 have key:∀x r x' r':List UInt8,x++10::r=x'++10::r'->(10:UInt8) ∉ x->(10:UInt8) ∉ x'->x=x'/\r=r':=by
  intro x;induction x with
  | nil =>
   intro r x' r' he _ hx'
   cases x' with
   | nil=>simp at he;exact⟨rfl,he⟩
   | cons c x'=>simp at he;exact absurd (by rw[<-he.1];simp) hx'
  | cons c x ih =>
   intro r x' r' he hx hx'
   cases x' with
   | nil=>simp at he;exact absurd (by rw[he.1];simp) hx
   | cons c' x' =>
    simp only[List.cons_append,List.cons.injEq]at he
    obtain⟨h1,h2⟩:=ih r x' r' he.2 (λhm=>hx (List.mem_cons_of_mem _ hm)) (λhm=>hx' (List.mem_cons_of_mem _ hm))
    exact⟨by rw[he.1,h1],h2⟩
 rcases sD 10 (s.data.toList.drop k)with⟨_,hno⟩|⟨x,r,hxr,hx,hc⟩
 ·rw[e]at hno;simp at hno
 ·obtain⟨h1,h2⟩:=key x r _ _ (hxr.symm.trans e) hx h;rw[hc,h1,h2]
theorem af8 {l:List UInt8} {m:Nat} (h0:0<m) (h:l[m]?=some 35):mg l m=m:=by
 obtain⟨k,rfl⟩:∃k,m=k+1:=⟨m-1,by omega⟩
 unfold mg;rw[if_pos h]
theorem af9 {l:List UInt8} {m:Nat} (h0:0<m) (h:l[m]?≠some 35):mg l m=mg l (m-1):=by
 obtain⟨k,rfl⟩:∃k,m=k+1:=⟨m-1,by omega⟩
 conv=>lhs;unfold mg
 rw[if_neg h,Nat.add_sub_cancel]
def aga (s:ByteArray) (R:List Df×Nat×Nat) (w wr:World) (n k:Nat) (L:List Df) (v:Value):Prop :=
 rH (w.heap.size+1) wr v L n k/\cu wr (w.heap.size+1+1) v L/\good L=true/\n<=60/\k<=s.size/\Hid (R=eU (60-n) L (s.data.toList.drop k) n k)/\Below (w.heap.size+1) (w.alloc (.cells #[.slice none 0 0,.int .i64 0,.int .i64 0] 114)) wr
theorem Jy (s:ByteArray) (w:World) (hs:s.size<=60000) :
  Calls Tryz.prog 66 #[.string s] w (Z8 (aT s) w):=by
 obtain⟨R,hR⟩:∃R,aT s=R:=⟨_,rfl⟩
 rw[hR];have H0:Hid (R=eU (60-0) [] (s.data.toList.drop 0) 0 0):=hR.symm;clear hR;go_enter Tryz.func66,Tryz.ntmps66;go_wp2;go_loopw [4] (λ_ wr=>∃(n k:Nat) (L:List Df) (v:Value),aga s R w wr n k L v) (λ_ wr=>leftOf wr (w.heap.size+1))
 case atStart =>
  obtain⟨a0,a1,a2,af,_⟩:=CB (w:=w.alloc (.cells #[.slice none 0 0,.int .i64 0,.int .i64 0] 114)) (a:=.slice none 0 0) (b:=.int .i64 0) (c:=.int .i64 0) (t:=114) (Below.refl _ _)
  simp only[World.size_alloc]at a0 a1 a2 af
  refine⟨0,0,[],.slice none 0 0,⟨a0,a1,a2,af,⟨_,_,rfl,Nat.zero_le _,λi hi=>absurd hi (Nat.not_lt_zero _)⟩⟩,IU _ _,by decide,by omega,Nat.zero_le _,H0,?_⟩
  exact(Below.refl (w.heap.size+1) (w.alloc (.cells #[.slice none 0 0,.int .i64 0,.int .i64 0] 114))).alloc (by simp) _
 case round =>
  obtain⟨n,k,L,v,hst⟩:=hrel
  obtain⟨⟨c0,c1,c2,cf,hv⟩,hown,hgd,hn,hk,HR,hbel⟩:=id hst
  obtain⟨r0,r1,r2,rf,hz,hbw⟩:=CB hbel
  obtain⟨be,hbe⟩:∃be,be=w.heap.size+1:=⟨_,rfl⟩
  rw[<-hbe]at c0 c1 c2 cf ⊢
  have hn1:¬w.heap.size=be:=by omega
  have hn2:¬be=w.heap.size:=by omega
  have hbz:=cell_lt c0
  have Z_:rH be wr v L n k:=⟨c0,c1,c2,cf,hv⟩
  obtain⟨av,cv,rfl,_,_⟩:=id hv
  have hl1:w.heap.size<w.heap.size+1+1:=by omega
  have hlo:=Me hst.1
  by_cases h60:n<60
  ·have g60:(n:Int)<60:=by omega
   have hf:60-n=(60-(n+1))+1:=by omega
   rw[hf]at HR
   have HF:=Lib.hid hf
   have HOWN:=Lib.hid hown
   have HST:=Lib.hid hst
   have hrb:=Z_
   have yY:=Lib.hid hbe
   clear Z_
   clear hf hst hown hbe
   go_wp2
   go_loop [4] (λi=>∃j:Nat,k<=j/\j<=s.size/\i=.int .i64 j/\zT s k j) (λi=>s.size-(intOf i).toNat)
   case atStart=>exact⟨k,Nat.le_refl _,hk,rfl,by simp[zT]⟩
   case round =>
    obtain⟨j,hkj,hj,rfl,hno⟩:=hrel
    by_cases hlt:j<s.size
    ·have gj:(j:Int)<(s.size:Int):=by omega
     by_cases bf:s[j]=10
     ·have hbb:((s[j].toNat:Int) != 10)=false:=by rw[bf];rfl
      have hcut:=af7 hkj hlt hno bf
      obtain⟨x,hx⟩:∃x,(s.data.toList.drop k).take (j-k)=x:=⟨_,rfl⟩
      rw[hx]at hcut
      have hxl:x.length=j-k:=by rw[<-hx];simp;omega
      have SY:s.extract k (j+1)=bytesOf (x++[10]):=by
       rw[<-Ea,XU s k j hkj hlt,bf,xP,List.drop_take,hx]
      obtain⟨line,hln⟩:∃line,bytesOf (x++[10])=line:=⟨_,rfl⟩
      rw[hln]at SY
      have hls:line.size=x.length+1:=by rw[<-hln,oD];simp
      have HL:=Lib.hid SY
      have e1:IntKind.i64.wrap ((j:Int)+1)=(j:Int)+1:=IntWalk.i64_in _ (by omega)
      have gj1:(j:Int)+1<=(s.size:Int):=by omega
      have gk1:(k:Int)<=(j:Int)+1:=by omega
      have aac:=Lib.hid hcut
      have HX:=Lib.hid hx
      have S9:=Lib.hid hln
      clear hno hcut hx SY hln bf
      go_wp2
      have hmin:((min (j+1) s.size-k:Nat):Int)-1=(x.length:Int):=by omega
      rw[hmin]
      try rw[HL.out]
      have hget:∀m (hm:m<line.size),(x++[10])[m]?=some line[m]:=λm hm=>by
       have h:=S9.out;subst h;rw[oD]at hm;rw[List.getElem?_eq_getElem hm];rfl
      have aad:=Lib.hid hget
      have lC:=Lib.hid hxl
      have HLS:=Lib.hid hls
      clear hget hmin e1 gj1 gk1 hbb hxl hls
      go_loop [6] (λi=>∃m:Nat,m<=x.length/\i=.int .i64 m/\Hid (mg (x++[10]) x.length=mg (x++[10]) m)) (λi=>(intOf i).toNat)
      case atStart=>exact⟨x.length,Nat.le_refl _,rfl,(rfl:Hid (mg (x++[10]) x.length=mg (x++[10]) x.length))⟩
      case round =>
       obtain⟨m,hm,rfl,HM⟩:=hrel
       cases m with
       | zero =>
        have hst:kJ L x=none:=by rw[<-step_eq];unfold stepM;rw[HM.out];rfl
        have hnx:nextL L (s.data.toList.drop k)=none:=by unfold nextL;rw[aac.out];simp[hst]
        have HE:Hid (R=(L,n,k)):=(show _=_ by rw[HR.out,Ie hnx])
        clear hst hnx HR
        go_wp2
        refine bodyPost_ret (v:=.agg #[.slice av L.length cv,.int .i64 (n:Int),.int .i64 (k:Int)]) (by simp[results,Tryz.results66,go_sem,r0,r1,r2,rf,hz]) rfl ?_
        rw[HE.out]
        refine⟨_,rfl,(jQ (jQ (jQ HOWN.out hl1) hl1) hl1).mono (by omega),?_⟩
        (repeat(first|(with_reducible refine Below.alloc ?_ ?_ _;rotate_left;(first|omega|(simp;done)|(simp;omega)))|(with_reducible refine Below.setCell ?_ ?_ _;rotate_left;(first|exact Nat.le_refl _|(simp;done)|(simp;omega)))|(with_reducible refine Below.drew ?_)));exact hbw
       | succ q =>
        have hql:q+1<line.size:=by have:=HLS.out;omega
        have gq:(q:Int)+1<(line.size:Int):=by omega
        have hq6:q<=60000:=by have:=lC.out;omega
        by_cases h35:line[q+1]=35
        ·have Ai:((line[q+1].toNat:Int) != 35)=false:=by rw[h35];rfl
         have hM:mg (x++[10]) x.length=q+1:=HM.out.trans (af8 (by omega) (by rw[aad.out _ hql,h35]))
         have S_:kJ L x=sO L (bytesOf ((x++[10]).take q)) (bytesOf (x++[10])):=by
          rw[<-step_eq];unfold stepM;rw[hM,if_neg (by omega),Nat.add_sub_cancel]
         have Tc:nextL L (s.data.toList.drop k)=(kJ L x).map (λR=>(R,x.length+1)):=by unfold nextL;rw[aac.out];simp
         obtain⟨X,hX⟩:∃X,bytesOf ((x++[10]).take q)=X:=⟨_,rfl⟩
         have lX:line.extract 0 q=X:=by rw[<-S9.out,OD,hX]
         have Cm:X.size<=60000:=by rw[<-hX,oD];simp;omega
         rw[hX,S9.out]at S_
         rw[S_]at Tc
         have Td:=Lib.hid lX
         have Tf:=Lib.hid Tc
         have e2:IntKind.i64.wrap ((q:Int)+1-1)=(q:Int):=by rw[show(q:Int)+1-1=q by omega];exact IntWalk.i64_in _ (by omega)
         have e3:IntKind.i64.wrap (q:Int)=(q:Int):=IntWalk.i64_in _ (by omega)
         have gq2:(q:Int)<=(line.size:Int):=by omega
         obtain⟨hLo,hLn⟩:=mJ hgd
         have hjr:=afU _ L X wr hv hgd (by omega)
         clear h35 hM S_ Tc lX hX
         cases he:jR L X with
         | none =>
          rw[he]at hjr
          have HJ:=Lib.hid hjr
          have HE:Hid (R=(L,n,k)):=(show _=_ by rw[HR.out,Ie (by rw[Tf.out];simp[sO,he])])
          clear hjr he HR
          go_wp2_with fail
          rw[Td.out]
          refine HJ.out.mono ?_
          rintro e5 w2⟨v2,rfl,ho2,hb2⟩
          obtain⟨a2,c2',rfl⟩:=ho2.slice
          obtain⟨d0,d1,d2,df,hv2⟩:=hrb.keep hb2
          have hB2:=hbel.trans (hb2.mono (by have:=hbel.size;simpa using this))
          clear r0 r1 r2 rf hz hbw c0 c1 c2 cf
          obtain⟨r0,r1,r2,rf,hz,hbw⟩:=CB hB2
          have iL:=HOWN.out.keep hb2
          have aic:=cell_lt d0
          go_wp2
          refine bodyPost_ret (v:=.agg #[.slice av L.length cv,.int .i64 (n:Int),.int .i64 (k:Int)]) (by simp[results,Tryz.results66,go_sem,r0,r1,r2,rf,hz]) rfl ?_
          rw[HE.out]
          refine⟨_,rfl,((jQ (jQ (jQ iL hl1) hl1) hl1).keep (aj _ _)).mono (by omega),?_⟩
          (repeat(first|(with_reducible refine Below.alloc ?_ ?_ _;rotate_left;(first|omega|(simp;done)|(simp;omega)))|(with_reducible refine Below.setCell ?_ ?_ _;rotate_left;(first|exact Nat.le_refl _|(simp;done)|(simp;omega)))|(with_reducible refine Below.drew ?_)));exact hbw
         | some e =>
          rw[he]at hjr
          have HJ:=Lib.hid hjr
          have hee:=ZX hgd (by omega) he
          obtain⟨R2,hR2,_⟩:=Qq he
          have HA:=Lib.hid hR2
          by_cases heq:dV X=line
          ·have hn':nextL L (s.data.toList.drop k)=some (R2,x.length+1):=by rw[Tf.out];simp[sO,he,heq,hR2]
           have aae:k+(x.length+1)=j+1:=by have:=lC.out;omega
           have HS:Hid (R=eU (60-(n+1)) R2 (s.data.toList.drop (j+1)) (n+1) (j+1)):=(show _=_ by rw[HR.out,Z7 hn',List.drop_drop,aae])
           have HG2:=Lib.hid (xE hR2)
           have HEQ:=Lib.hid heq
           have e1:IntKind.i64.wrap ((j:Int)+1)=(j:Int)+1:=IntWalk.i64_in _ (by omega)
           have e4:IntKind.i64.wrap ((n:Int)+1)=(n:Int)+1:=IntWalk.i64_in _ (by omega)
           clear hjr he HR heq hR2 hn' aae
           go_wp2_with fail
           rw[Td.out]
           refine HJ.out.mono ?_
           rintro e5 w2⟨v2,rfl,ho2,hb2⟩
           simp only[Option.isSome_some,Option.getD_some]at ho2 ⊢
           obtain⟨a2,c2',rfl⟩:=ho2.slice
           obtain⟨d0,d1,d2,df,hv2⟩:=hrb.keep hb2
           have hB2:=hbel.trans (hb2.mono (by have:=hbel.size;simpa using this))
           have hz2:=hB2.size
           simp only[World.size_alloc]at hz2
           clear c0 c1 c2 cf
           go_wp2_with fail
           refine(FT X _ (by omega)).mono ?_
           rintro e6 w3⟨rfl,hb3⟩
           rw[HEQ.out]
           have Md:Below (w2.heap.size+1) (w2.alloc (.cells #[.int .i64 e.kind,.string e.name,.string e.to,.slice a2 e.body.length c2'] 45)) w3:=hb3.mono (by simp)
           obtain⟨y0,y1,y2,y3,hyz,o9⟩:=kX Md
           have hB3:=hB2.trans (o9.mono hz2)
           obtain⟨f0,f1,f2,ff,hv3⟩:=(hrb.keep hb2).keep o9
           have hz3:=o9.size
           have ho3:=ho2.keep o9
           have aaf:=cell_lt f0
           clear d0 d1 d2 df
           go_wp2_with fail
           refine(oQ _ _ L e _ hv3 hLn hLo ho3.at hee).mono ?_
           rintro e7 w4⟨v4,rfl,bF,hb4⟩
           rw[HA.out]at bF ⊢
           simp only[Option.isSome_some,Option.getD_some]at bF ⊢
           obtain⟨a4,c4,rfl,_,_⟩:=id bF.at
           obtain⟨g0,g1,g2,gf,hv4⟩:=((hrb.keep hb2).keep o9).keep hb4
           have hB4:=hB3.trans (hb4.mono (by omega))
           have iY:=hb4.size
           have aie:=cell_lt g0
           clear f0 f1 f2 ff y0 y1 y2 y3 r0 r1 r2 rf hz hbw
           have hbl:be<w3.heap.size:=aaf
           have Ti:w.heap.size+1<=be:=by have:=yY.out;omega
           have dZ:cu (((w4.setCell ⟨be,0,none⟩ (.slice a4 R2.length c4)).setCell ⟨be,1,none⟩ (.int .i64 ((n:Int)+1))).setCell ⟨be,2,none⟩ (.int .i64 ((j:Int)+1))) w3.heap.size (.slice a4 R2.length c4) R2:=jQ (jQ (jQ bF hbl) hbl) hbl
           have gX:Below (w.heap.size+1) (w.alloc (.cells #[.slice none 0 0,.int .i64 0,.int .i64 0] 114)) (((w4.setCell ⟨be,0,none⟩ (.slice a4 R2.length c4)).setCell ⟨be,1,none⟩ (.int .i64 ((n:Int)+1))).setCell ⟨be,2,none⟩ (.int .i64 ((j:Int)+1))):=((hB4.setCell Ti _).setCell Ti _).setCell Ti _
           have hrc:rH be (((w4.setCell ⟨be,0,none⟩ (.slice a4 R2.length c4)).setCell ⟨be,1,none⟩ (.int .i64 ((n:Int)+1))).setCell ⟨be,2,none⟩ (.int .i64 ((j:Int)+1))) (.slice a4 R2.length c4) R2 (n+1) (j+1):=by
            refine⟨?_,?_,?_,?_,dZ.at⟩
            ·go_simp
            ·go_simp
            ·go_simp
            ·intro i;have:=gf i;go_simp
           have HRC:=Lib.hid hrc
           have HO5:=Lib.hid dZ
           have HB5:=Lib.hid gX
           have Z4:=gf 0
           have gf1:=gf 1
           have gf2:=gf 2
           clear hrc dZ gX bF hB4 hB3 hb4 o9 hb3 hb2 hB2 hv2 hv3 hv4
           go_wp2
           go_roundw
           case rel=>exact⟨n+1,j+1,R2,_,by rw[<-yY.out];exact HRC.out,HO5.out.mono (by have:=yY.out;omega),HG2.out,by omega,by omega,HS,HB5.out⟩
           case measure=>rw[<-yY.out]at hlo;rw[Me HRC.out,hlo];omega
          ·have HE:Hid (R=(L,n,k)):=(show _=_ by rw[HR.out,Ie (by rw[Tf.out];simp[sO,he,heq])])
           have g9:=u_ heq
           clear hjr he HR heq
           go_wp2_with fail
           rw[Td.out]
           refine HJ.out.mono ?_
           rintro e5 w2⟨v2,rfl,ho2,hb2⟩
           simp only[Option.isSome_some,Option.getD_some]at ho2 ⊢
           obtain⟨a2,c2',rfl⟩:=ho2.slice
           obtain⟨d0,d1,d2,df,hv2⟩:=hrb.keep hb2
           have hB2:=hbel.trans (hb2.mono (by have:=hbel.size;simpa using this))
           have hz2:=hB2.size
           simp only[World.size_alloc]at hz2
           clear c0 c1 c2 cf
           go_wp2_with fail
           refine(FT X _ (by omega)).mono ?_
           rintro e6 w3⟨rfl,hb3⟩
           have o9:=(aj w2 (.cells #[.int .i64 e.kind,.string e.name,.string e.to,.slice a2 e.body.length c2'] 45)).trans (hb3.mono (by simp))
           have hB3:=hB2.trans (o9.mono hz2)
           obtain⟨f0,f1,f2,ff,hv3⟩:=(hrb.keep hb2).keep o9
           have iL:=(HOWN.out.keep hb2).keep o9
           clear r0 r1 r2 rf hz hbw d0 d1 d2 df
           obtain⟨r0,r1,r2,rf,hz,hbw⟩:=CB hB3
           have aaf:=cell_lt f0
           go_wp2
           refine bodyPost_ret (v:=.agg #[.slice av L.length cv,.int .i64 (n:Int),.int .i64 (k:Int)]) (by simp[results,Tryz.results66,go_sem,r0,r1,r2,rf,hz]) rfl ?_
           rw[HE.out]
           refine⟨_,rfl,((jQ (jQ (jQ iL hl1) hl1) hl1)).mono (by omega),?_⟩
           (repeat(first|(with_reducible refine Below.alloc ?_ ?_ _;rotate_left;(first|omega|(simp;done)|(simp;omega)))|(with_reducible refine Below.setCell ?_ ?_ _;rotate_left;(first|exact Nat.le_refl _|(simp;done)|(simp;omega)))|(with_reducible refine Below.drew ?_)));exact hbw
        ·have hne:((line[q+1].toNat:Int) != 35)=true:=by
          have:((line[q+1].toNat:Int)==((35:Nat):Int))=false:=by rw[lJ _ 35 (by omega)];simpa using h35
          simpa[bne]using this
         have HM2:Hid (mg (x++[10]) x.length=mg (x++[10]) q):=HM.out.trans (af9 (by omega) (by rw[aad.out _ hql];simpa using h35))
         clear h35
         go_wp2
         go_round
         case rel=>exact⟨q,by omega,by go_num,HM2⟩
         case measure=>simp[intOf]
     ·have hbb:((s[j].toNat:Int) != 10)=true:=by
       have:((s[j].toNat:Int)==((10:Nat):Int))=false:=by rw[lJ _ 10 (by omega)];simpa using bf
       simpa[bne]using this
      have HNO:=Lib.hid (af5 hkj hlt hno bf)
      clear hno bf
      go_wp2
      go_round
      case rel=>exact⟨j+1,by omega,by omega,by go_num,HNO.out⟩
      case measure=>simp[intOf];omega
    ·obtain rfl:j=s.size:=by omega
     have hcut:=af6 hk hno
     have hnx:nextL L (s.data.toList.drop k)=none:=by unfold nextL;rw[hcut];simp
     have HE:Hid (R=(L,n,k)):=(show _=_ by rw[HR.out,Ie hnx])
     clear hcut hnx hno HR
     go_wp2
     refine bodyPost_ret (v:=.agg #[.slice av L.length cv,.int .i64 (n:Int),.int .i64 (k:Int)]) (by simp[results,Tryz.results66,go_sem,r0,r1,r2,rf,hz]) rfl ?_
     rw[HE.out]
     refine⟨_,rfl,(jQ (jQ (jQ HOWN.out hl1) hl1) hl1).mono (by omega),?_⟩
     (repeat(first|(with_reducible refine Below.alloc ?_ ?_ _;rotate_left;(first|omega|(simp;done)|(simp;omega)))|(with_reducible refine Below.setCell ?_ ?_ _;rotate_left;(first|exact Nat.le_refl _|(simp;done)|(simp;omega)))|(with_reducible refine Below.drew ?_)));exact hbw
  ·have agb:n=60:=by omega
   subst agb
   have HE:Hid (R=(L,60,k)):=(show _=_ by rw[HR.out];rfl)
   have HOWN:=Lib.hid hown
   clear HR hbe hlo hst hown
   go_wp2
   refine bodyPost_ret (v:=.agg #[.slice av L.length cv,.int .i64 (60:Int),.int .i64 (k:Int)]) (by simp[results,Tryz.results66,go_sem,r0,r1,r2,rf,hz]) rfl ?_
   rw[HE.out]
   refine⟨_,rfl,(jQ (jQ (jQ HOWN.out hl1) hl1) hl1).mono (by omega),?_⟩
   (repeat(first|(with_reducible refine Below.alloc ?_ ?_ _;rotate_left;(first|omega|(simp;done)|(simp;omega)))|(with_reducible refine Below.setCell ?_ ?_ _;rotate_left;(first|exact Nat.le_refl _|(simp;done)|(simp;omega)))|(with_reducible refine Below.drew ?_)));exact hbw
end Go.Proofs.YtikgblkfmpecfaaGreatDoor
