/-
  The law of crashes, walked. Own work.
-/
import Derived.Test.YtikgblkfmpecfaaGreatDoorWCR
import Derived.Test.YtikgblkfmpecfaaGreatDoorWDK
import Derived.Test.YtikgblkfmpecfaaGreatDoorWNL
import Derived.Test.YtikgblkfmpecfaaGreatDoorWNK
import Derived.Test.YtikgblkfmpecfaaGreatDoorWY
import Derived.Test.YtikgblkfmpecfaaGreatDoorWH
import Derived.Deep.DeepCutAuto
set_option linter.all false
set_option maxRecDepth 100000
set_option maxHeartbeats 8000000
namespace Go.Proofs.YtikgblkfmpecfaaGreatDoor
open Go.RowKit
def BlC (w:World) (e:Ending) (w':World):Prop:=e=.returned (.bool true)/\Below w.heap.size w w'
structure KN (w:World) (b5 b6:Nat) (s t:ByteArray) (en:En) (ve:Value) (wx:World):Prop where
 d0:wx.cell? ⟨b5,0,none⟩=some (.string s)
 d1:wx.cell? ⟨b5,1,none⟩=some (.string t)
 e0:wx.cell? ⟨b6,0,none⟩=some (.int .i64 en.kind)
 e1:wx.cell? ⟨b6,1,none⟩=some (.string en.name)
 e2:wx.cell? ⟨b6,2,none⟩=some (.string en.to)
 e3:wx.cell? ⟨b6,3,none⟩=some ve
 yP:aZ wx ve en.body
 bel:Below w.heap.size w wx
theorem KN.keep {w:World} {b5 b6:Nat} {s t:ByteArray} {en:En} {ve:Value} {wx W:World} (h:KN w b5 b6 s t en ve wx) (hb:Below wx.heap.size wx W):KN w b5 b6 s t en ve W :=
 ⟨ak hb h.d0,ak hb h.d1,ak hb h.e0,ak hb h.e1,ak hb h.e2,ak hb h.e3,h.yP.keep hb,h.bel.trans (hb.mono h.bel.size)⟩
structure wG (b:Nat) (s t:ByteArray) (wx:World):Prop where
 c0:wx.cell? ⟨b,0,none⟩=some (.string s)
 c1:wx.cell? ⟨b,1,none⟩=some (.string t)
theorem wG.keep {b:Nat} {s t:ByteArray} {wx W:World} (h:wG b s t wx) (hb:Below wx.heap.size wx W):wG b s t W:=⟨ak hb h.c0,ak hb h.c1⟩
theorem wG.new (w:World) (s t:ByteArray):wG w.heap.size s t (w.alloc (.cells #[.string s,.string t] 54)):=⟨by simp[go_sem],by simp[go_sem]⟩
theorem aej {s y:ByteArray} {n:Nat} (h:oP s y=(n,true)):s.size+y.size<=60000/\n=(aT s).2.1:=by
 unfold oP at h;split at h;next h6=>exact⟨h6,((Prod.mk.inj h).1).symm⟩
 next=>cases h
theorem abQ (va vb:Value) (xs ys:List UInt8) (w:World) (ha:BytesAt w va xs) (hb:BytesAt w vb ys) (la:∀k,va.ownBlock=some k->k<w.heap.size) (lb:∀k,vb.ownBlock=some k->k<w.heap.size)
  (hxl:xs.length<=1099511627776) (hyl:ys.length<=1099511627776) (hct:dF w) (hpt:iM w) :
  Calls Tryz.prog 5 #[va,vb] w (BlC w):=by
 obtain⟨aa,ca,rfl⟩:=ha.shape;obtain⟨ab,cb,rfl⟩:=hb.shape;go_enter Tryz.func5,Tryz.ntmps5;go_wp2_with fail
 refine(Yc _ _ xs ys w ha hb hxl hyl).mono ?_;rintro e w0⟨b,rfl,hbg,hw0⟩;obtain rfl:w=w0:=hw0.symm;cases b
 ·obtain⟨hx1,hy1⟩:=hbg rfl;clear hbg;go_upto_region 3 with fail
  go_cut [5,6] (λs5 s6 wx=>∃(b5 b6:Nat) (s t:ByteArray) (en:En) (ve:Value),s5=.pointer (some ⟨b5,0,none⟩)/\s6=.pointer (some ⟨b6,0,none⟩)/\s.size<=22001/\t.size<=22002/\dW en/\KN w b5 b6 s t en ve wx)
  case first =>
   go_wp2_with fail
   refine(aek _ xs w ha hx1 la).mono ?_
   rintro e w1⟨s,t,en,ve,rfl,hs,ht,hen,xB,hB1⟩
   obtain⟨ae,ce,rfl⟩:=xB.slice
   go_wp2_with fail
   go_meet
   case rel =>
    refine⟨_,_,s,t,en,.slice ae en.body.length ce,rfl,rfl,hs,ht,hen,?_⟩
    refine⟨by go_simp,by go_simp,by go_simp,by go_simp,by go_simp,by go_simp,?_,?_⟩
    ·exact xB.keep (((Below.refl _ _).alloc (Nat.le_refl _) _).alloc (by simp) _)
    ·exact(hB1.alloc hB1.size _).alloc (by have:=hB1.size;simp;omega) _
  case rest =>
   as_aux_lemma =>
    obtain⟨b5,b6,s,t,en,ve,rfl,rfl,hs,ht,hen,hX⟩:=hcut
    obtain⟨w5,rfl⟩:∃W,W=wc:=⟨_,rfl⟩
    obtain⟨ae,ce,rfl⟩:=hX.yP.slice
    have QB:∀{W:World},Below w5.heap.size w5 W->Below w.heap.size w W:=λh=>hX.bel.trans (h.mono hX.bel.size)
    obtain⟨o,ho⟩:∃o,pX s t en=o:=⟨_,rfl⟩
    have j0:=λW (hb:Below w5.heap.size w5 W)=>acj s t _ en W (hct.keep (QB hb)) (hpt.keep (QB hb)) (by omega) (by omega) (hX.yP.keep hb) hen
    have j1:=λW (hb:Below w5.heap.size w5 W)=>aco s t _ en W (by omega) (by omega) (hX.yP.keep hb) hen
    unfold OU at j0 j1
    rw[ho]at j0 j1
    obtain⟨b,hb0⟩:∃b,o.isSome=b:=⟨_,rfl⟩
    obtain⟨y1,hy1'⟩:∃y,o.getD ⟨#[]⟩=y:=⟨_,rfl⟩
    obtain⟨s1,hs1⟩:∃z,(if o.isSome then s else⟨#[]⟩)=z:=⟨_,rfl⟩
    rw[hs1,hy1',hb0]at j0 j1
    have J0:=Lib.hid j0
    have J1:=Lib.hid j1
    have hbb:=V5 b
    clear j0 j1
    have HO:=Lib.hid (And.intro ho (And.intro hb0 (And.intro hy1' hs1)))
    clear ho hb0 hy1' hs1
    obtain⟨d0,d1,e0,e1,e2,e3,_,_⟩:=id hX
    have z5:=cell_lt d0
    have z6:=cell_lt e0
    go_wp2_with fail
    refine(J0.out _ (Below.refl _ _)).mono ?_
    rintro e w2⟨rfl,hb2⟩
    have hX2:=hX.keep hb2
    clear d0 d1 e0 e1 e2 e3 z5 z6
    obtain⟨d0,d1,e0,e1,e2,e3,_,_⟩:=id hX2
    have z5:=cell_lt d0
    have z6:=cell_lt e0
    go_wp2_with fail
    refine(J1.out _ (hb2.trans ((aj _ _).mono hb2.size))).mono ?_
    rintro e w3⟨rfl,hb3⟩
    obtain⟨q0,q1,qf,qz,hq⟩:=DJ (w:=w2) (hb3.mono (by simp))
    have B3:=hb2.trans (hq.mono hb2.size)
    have Yd:=hX.keep B3
    have l7:w5.heap.size<=w2.heap.size:=hb2.size
    obtain⟨b7,hb7⟩:∃b,b=w2.heap.size:=⟨_,rfl⟩
    have n5:¬b7=b5:=by omega
    have n6:¬b7=b6:=by omega
    rw[<-hb7]at q0 q1 qf qz l7 ⊢
    clear d0 d1 e0 e1 e2 e3 z5 z6 hX2 hb2 hq hb3 hb7 J0 J1
    obtain⟨d0,d1,e0,e1,e2,e3,_,_⟩:=id Yd
    have z5:=cell_lt d0
    have z6:=cell_lt e0
    go_upto_if 66 with fail
    go_cut [9] (λs9 wx=>∃y:ByteArray,wG b7 s y wx/\(b=true->pX s t en=some y)/\(b=false->y=t)/\Below w5.heap.size w5 wx)
    case first =>
     obtain⟨ho,hb0,hy1',hs1⟩:=HO.out
     have f0:=qf 0
     have f1:=qf 1
     cases o with
     | none =>
      obtain rfl:b=false:=by simpa using hb0.symm
      clear ho hb0 hy1' hs1 HO
      go_wp2_with fail
      go_meet
      case rel =>
       refine⟨t,⟨by go_simp,by go_simp⟩,by simp,λ_=>rfl,?_⟩
       (repeat(first|(with_reducible refine Below.alloc ?_ ?_ _;rotate_left;(first|omega|(simp;done)|(simp;omega)))|(with_reducible refine Below.setCell ?_ ?_ _;rotate_left;(first|exact Nat.le_refl _|(simp;done)|(simp;omega)))|(with_reducible refine Below.drew ?_)));exact B3
     | some y =>
      obtain rfl:b=true:=by simpa using hb0.symm
      obtain rfl:y=y1:=by simpa using hy1'
      obtain rfl:s=s1:=by simpa using hs1
      have HO2:=Lib.hid ho
      clear ho hb0 hy1' hs1 HO
      go_wp2_with fail
      go_meet
      case rel =>
       refine⟨y,⟨by go_simp,by go_simp⟩,λ_=>HO2.out,by simp,?_⟩
       (repeat(first|(with_reducible refine Below.alloc ?_ ?_ _;rotate_left;(first|omega|(simp;done)|(simp;omega)))|(with_reducible refine Below.setCell ?_ ?_ _;rotate_left;(first|exact Nat.le_refl _|(simp;done)|(simp;omega)))|(with_reducible refine Below.drew ?_)));exact B3
    case rest =>
     as_aux_lemma =>
      obtain⟨y,hD,hy2,hy3,hB⟩:=hcut
      obtain⟨w9,rfl⟩:∃W,W=wc:=⟨_,rfl⟩
      have KO:=hX.keep hB
      clear HO hbb B3 Yd d0 d1 e0 e1 e2 e3 z5 z6 q0 q1 qf qz n5 n6 l7 hX QB hB
      have hyz:y.size<=60000:=by
       cases b
       ·rw[hy3 rfl];omega
       ·have:=(VH (hy2 rfl)).2.1;omega
      have HY2:=Lib.hid hy2
      clear hy2 hy3
      have nV:∀{W:World},Below w9.heap.size w9 W->Below w.heap.size w W:=λh=>KO.bel.trans (h.mono KO.bel.size)
      obtain⟨⟨n,one⟩,hR⟩:∃R,oP s y=R:=⟨_,rfl⟩
      have j0:=λW (hb:Below w9.heap.size w9 W)=>V6 s y W (hct.keep (nV hb)) (hpt.keep (nV hb)) (by omega) (by omega)
      have j1:=λW=>aci s y W (by omega) (by omega)
      rw[hR]at j0 j1
      have J0:=Lib.hid j0
      have J1:=Lib.hid j1
      have HR:=Lib.hid hR
      clear j0 j1 hR
      have hbb:=V5 one
      have hnn:((n:Int) != n)=false:=by simp
      obtain⟨c0,c1⟩:=id hD
      have z7:=cell_lt c0
      go_wp2_with fail
      refine(J0.out _ (Below.refl _ _)).mono ?_
      rintro e w10⟨rfl,bf⟩
      clear c0 c1 z7
      obtain⟨c0,c1⟩:=hD.keep bf
      have z7:=cell_lt c0
      go_wp2_with fail
      refine(J1.out _).mono ?_
      rintro e iE⟨rfl,ku⟩
      have B11:=bf.trans (ku.mono bf.size)
      clear c0 c1 z7 J0 J1 bf ku
      go_upto_if 87 with fail
      cases one
      ·go_wp2_with fail
       go_ret
       exact⟨rfl,nV B11⟩
      ·obtain⟨h6,hn⟩:=aej HR.out
       have HN:=Lib.hid hn
       clear HR hn hbb hnn
       have QC:=hD.keep B11
       have KP:=KO.keep B11
       clear hD KO nV B11
       have Ye:∀{W:World},Below iE.heap.size iE W->Below w.heap.size w W:=λh=>KP.bel.trans (h.mono KP.bel.size)
       go_upto_region 16 with fail
       go_cut [15,16] (λs15 s16 wx=>∃(b15 k:Nat),s15=.pointer (some ⟨b15,0,none⟩)/\s16=.bool true/\k<=y.size/\wG b15 (s++y.extract 0 k) ⟨#[]⟩ wx/\Below iE.heap.size iE wx)
       case first =>
        obtain⟨c0,c1⟩:=id QC
        have z7:=cell_lt c0
        have e1:IntKind.i64.wrap ((y.size:Int)+1)=(y.size:Int)+1:=IntWalk.i64_in _ (by omega)
        have up2:∀{w':World},ah aQ iE.drew w'->Below iE.heap.size iE w':=λh=>(Below.refl iE.heap.size iE).drew.trans (h.toBelow.mono (by simp))
        refine bC (C:=ah (aQ) _) 4 [0,1,2,3,4,5,6,7,8,9,10,11,12,13,14] (by kernel_rfl) (by kernel_rfl) (ah.grows _ _) (ah.refl _ _) ?_
        iterate 2 (apply ay rfl rfl rfl;(focus intro u hc' hf';go_simp<;>rfl);intro K hK;go_simp;apply hK;clear hK K)
        refine aX rfl rfl rfl (ah.grows _ _) (ah.refl _ _) 27 (λK hK=>?_);apply Exists.intro;refine⟨λw' hw'=>?_,λwa dU dS=>?_⟩;(focus go_simp;rfl);refine(Yf _ ys _ (hb.low lb (Ye (up2 dU))) hy1).mono ?_;rintro e w3⟨⟨q,hq,rfl⟩,hw3⟩;refine⟨_,rfl,(by rw[hw3];exact Below.refl _ _),λhx=>?_⟩;go_simp;apply hK;clear hK K
        clear hw3
        have e2:(q:Int).tmod ((y.size:Int)+1)=((q % (y.size+1):Nat):Int):=by rw[Int.tmod_eq_emod_of_nonneg (by omega)];simp
        have hk:q % (y.size+1)<=y.size:=by have:=Nat.mod_lt q (by omega:0<y.size+1);omega
        obtain⟨k,hk0⟩:∃k,k=q % (y.size+1):=⟨_,rfl⟩
        rw[<-hk0]at e2 hk
        clear hk0
        have e3:IntKind.i64.wrap (k:Int)=(k:Int):=IntWalk.i64_in _ (by omega)
        iterate 5 (apply ay rfl rfl rfl;(focus intro u hc' hf';go_simp<;>rfl);intro K hK;go_simp;apply hK;clear hK K)
        refine aX rfl rfl rfl (ah.grows _ _) (dU) 33 (λK hK=>?_);apply Exists.intro;refine⟨λw' hw'=>?_,λwb hwb fB=>?_⟩;(focus go_simp;rfl);refine(acp s y k _ hk h6).mono ?_;rintro e w4⟨rfl,hb4⟩;refine⟨_,rfl,hb4,λhx=>?_⟩;go_simp;apply hK;clear hK K
        iterate 3 (apply ay rfl rfl rfl;(focus intro u hc' hf';go_simp<;>rfl);intro K hK;go_simp;apply hK;clear hK K)
        obtain⟨D0,hD0⟩:∃x,x=s++y.extract 0 k:=⟨_,rfl⟩
        rw[<-hD0]
        have HD0:=Lib.hid hD0
        clear hD0
        refine fG rfl rfl rfl (ah.grows _ _) hx (λb=>.pointer (some ⟨b,0,none⟩)) (λK hK=>?_)
        apply Exists.intro
        refine⟨λw' hw'=>?_,λbA w7 hw7 hb7 aI hNb hnb=>?_⟩
        ·go_simp
         rfl
        go_simp
        refine hK _ _ _ ?_
        clear hK K
        refine eH rfl rfl rfl (ah.grows _ _) hw7 (λK hK=>?_)
        intro w8 hw8 hb8
        obtain⟨m0,m1,m2⟩:=made_cell ((hb8.block bA (made_cell aI).2.2).trans aI)
        refine⟨(w8.setCell ⟨bA,0,none⟩ (.string D0)).setCell ⟨bA,1,none⟩ (.string ⟨#[]⟩),?_,⟨aB (aB hw8 (.inl hNb) _) (.inl hNb) _,by simp,λj _ hj _=>by rw[Below.heap_setCell _ _ _ _ (λh=>hj (by simp[h])),Below.heap_setCell _ _ _ _ (λh=>hj (by simp[h]))]⟩,?_⟩
        ·go_simp
        go_simp
        refine hK _ _ _ ?_
        clear hK K
        iterate 1 (apply ay rfl rfl rfl;(focus intro u hc' hf';go_simp<;>rfl);intro K hK;go_simp;apply hK;clear hK K)
        refine aK ?_
        have hbb:iE.heap.size<=bA:=by simpa using hNb
        generalize hW:(w8.setCell ⟨bA,0,none⟩ (.string D0)).setCell ⟨bA,1,none⟩ (.string ⟨#[]⟩)=W
        have q0:W.cell? ⟨bA,0,none⟩=some (.string D0):=by rw[<-hW];clear hW;go_simp
        have q1:W.cell? ⟨bA,1,none⟩=some (.string ⟨#[]⟩):=by rw[<-hW];clear hW;go_simp
        have hBW:Below iE.heap.size iE W:=by rw[<-hW];exact(((up2 hw8).setCell (by simpa using hbb) _).setCell (by simpa using hbb) _)
        go_wp2_with fail
        go_meet
        case rel =>
         exact⟨bA,k,rfl,rfl,hk,⟨HD0.out▸q0,q1⟩,hBW⟩
       case rest =>
        as_aux_lemma =>
         obtain⟨b15,k,rfl,rfl,hk,KQ,hB⟩:=hcut
         obtain⟨w16,rfl⟩:∃W,W=wc:=⟨_,rfl⟩
         have QD:=QC.keep hB
         have KR:=KP.keep hB
         clear QC KP hB Ye
         have up:∀{W:World},Below w16.heap.size w16 W->Below w.heap.size w W:=λh=>KR.bel.trans (h.mono KR.bel.size)
         obtain⟨r,L,F,m,N,B,hF⟩:=abZ h6 k
         obtain⟨c,hc⟩:∃c,c=s++y.extract 0 k:=⟨_,rfl⟩
         rw[<-hc]at KQ hF
         have HF:=Lib.hid hF
         have rz:=hF.size
         have cz:=hF.csize
         have mn:(aT s).2.1<=m:=hF.more
         rw[<-HN.out]at mn
         have j0:=λW (hb:Below w16.heap.size w16 W)=>V8 c ⟨#[]⟩ W (hct.keep (up hb)) (hpt.keep (up hb)) (by omega) (by decide)
         have j1:=λW (hb:Below w16.heap.size w16 W)=>V8 r ⟨#[]⟩ W (hct.keep (up hb)) (hpt.keep (up hb)) (by omega) (by decide)
         have j2:=λW (hb:Below w16.heap.size w16 W)=>V6 r ⟨#[]⟩ W (hct.keep (up hb)) (hpt.keep (up hb)) (by omega) (by decide)
         have j3:=λW (hb:Below w16.heap.size w16 W)=>Eh (s++y) W (hct.keep (up hb)) (hpt.keep (up hb)) (by rw[bsize];omega)
         rw[hF.abX]at j0
         rw[hF.abY]at j1
         rw[hF.cnt]at j2
         rw[hF.full]at j3
         unfold V7 at j0 j1
         unfold OQ at j2
         simp only at j0 j1 j2 j3
         have J0:=Lib.hid j0
         have J1:=Lib.hid j1
         have J2:=Lib.hid j2
         have J3:=Lib.hid j3
         clear j0 j1 j2 j3 hF hc
         have KT:=wo HF.out.good.1
         have QE:=wo HF.out.good.2
         obtain⟨c0,c1⟩:=id KQ
         have Yg:=cell_lt c0
         go_wp2_with fail
         refine(J0.out _ (Below.refl _ _)).mono ?_
         rintro e KU⟨v17,rfl,Yh,QF⟩
         have uQ:=Yh.at
         obtain⟨a17,c17,rfl,_,_⟩:=id uQ
         have rE:=wG.new KU r ⟨#[]⟩
         have hal:=aj KU (.cells #[.string r,.string ⟨#[]⟩] 54)
         have Ba:=QF.trans (hal.mono QF.size)
         have QG:=uQ.keep hal
         obtain⟨f0,f1⟩:=id rE
         have z17:=cell_lt f0
         clear c0 c1 Yg Yh uQ
         go_upto_region 18 with fail
         obtain⟨w18,Yi⟩:∃W,W=KU.alloc (.cells #[.string r,.string ⟨#[]⟩] 54):=⟨_,rfl⟩
         obtain⟨b17,Yj⟩:∃b,b=KU.heap.size:=⟨_,rfl⟩
         rw[<-Yi]at rE f0 f1 z17 Ba QG ⊢
         rw[<-Yj]at rE f0 f1 z17 ⊢
         clear Yi Yj hal QF
         go_wp2_with fail
         refine(J1.out _ Ba).mono ?_
         rintro e KW⟨v19,rfl,Yk,QH⟩
         have Ei:=Yk.at
         obtain⟨a19,c19,rfl,_,_⟩:=id Ei
         have hal:=aj KW (.cells #[.string r,.string ⟨#[]⟩] 54)
         have KX:=wG.new KW r ⟨#[]⟩
         have Bc:=QH.trans (hal.mono QH.size)
         have Bb:=Ba.trans (Bc.mono Ba.size)
         have QI:=Ei.keep hal
         have QJ:=QG.keep Bc
         have KY:=rE.keep Bc
         clear rE f0 f1 z17 QG Ei Yk
         go_upto_region 19 with fail
         obtain⟨w20,Yl⟩:∃W,W=KW.alloc (.cells #[.string r,.string ⟨#[]⟩] 54):=⟨_,rfl⟩
         obtain⟨b20,Ym⟩:∃b,b=KW.heap.size:=⟨_,rfl⟩
         rw[<-Yl]at KX Bb QI QJ KY ⊢
         rw[<-Ym]at KX ⊢
         clear Yl Ym hal QH Bc Ba
         obtain⟨f0,f1⟩:=id KY
         have z17:=cell_lt f0
         go_wp2_with fail
         refine(J2.out _ Bb).mono ?_
         rintro e BL⟨rfl,Ej⟩
         have KZ:=Bb.trans (Ej.mono Bb.size)
         have uQ:=QJ.keep Ej
         have Ei:=QI.keep Ej
         have rE:=KY.keep Ej
         have hDc:=KQ.keep KZ
         have hD2:=KX.keep Ej
         clear f0 f1 z17 QJ QI KY KX Bb Ej KQ J0 J1 J2
         go_upto_region 20 with fail
         go_cut [171] (λael wx=>ael=.bool false/\Below BL.heap.size BL wx)
         case first =>
          obtain⟨f0,f1⟩:=id rE
          obtain⟨g0,g1⟩:=id hDc
          obtain⟨k0,k1⟩:=id hD2
          have z17:=cell_lt f0
          have Yg:=cell_lt g0
          have z20:=cell_lt k0
          have hrc:¬(c.size:Int)<r.size:=by omega
          have ahD:(r.size:Int)<=c.size:=by omega
          have hmn:¬(m:Int)<n:=by omega
          have hext:=HF.out.ext
          clear up mn rz cz QE hy1 hyl hxl hx1 h6 hyz
          have QK:∀{w':World},ah aQ BL.drew w'->Below BL.heap.size BL w':=λh=>(Below.refl BL.heap.size BL).drew.trans (h.toBelow.mono (by simp))
          refine bC (C:=ah (aQ) _) 6 [0,1,2,3,4,5,6,7,8,9,10,11,12,13,14,15,16,17,18,19,20,21,22,23,24,25,26,27,28,29,30,31,32,33,34,35,36,37,38,39,40,41,42,43,44,45,46,47,48,49,50,51,52,53,54] (by kernel_rfl) (by kernel_rfl) (ah.grows _ _) (ah.refl _ _) ?_
          iterate 3 (apply ay rfl rfl rfl;(focus intro u hc' hf';go_simp<;>rfl);intro K hK;go_simp;apply hK;clear hK K)
          iterate 2 (apply dR rfl rfl (by first|rfl|(simp[Region.wanted,yielded,go_sem]));(focus intro u hc' hf';go_simp<;>rfl);intro K hK;go_simp;apply hK;clear hK K)
          iterate 2 (apply ay rfl rfl rfl;(focus intro u hc' hf';go_simp<;>rfl);intro K hK;go_simp;apply hK;clear hK K)
          iterate 2 (apply dR rfl rfl (by first|rfl|(simp[Region.wanted,yielded,go_sem]));(focus intro u hc' hf';go_simp<;>rfl);intro K hK;go_simp;apply hK;clear hK K)
          iterate 2 (apply ay rfl rfl rfl;(focus intro u hc' hf';go_simp<;>rfl);intro K hK;go_simp;apply hK;clear hK K)
          iterate 2 (apply dR rfl rfl (by first|rfl|(simp[Region.wanted,yielded,go_sem]));(focus intro u hc' hf';go_simp<;>rfl);intro K hK;go_simp;apply hK;clear hK K)
          iterate 2 (apply ay rfl rfl rfl;(focus intro u hc' hf';go_simp<;>rfl);intro K hK;go_simp;apply hK;clear hK K)
          iterate 3 (apply dR rfl rfl (by first|rfl|(simp[Region.wanted,yielded,go_sem]));(focus intro u hc' hf';go_simp<;>rfl);intro K hK;go_simp;apply hK;clear hK K)
          iterate 2 (apply ay rfl rfl rfl;(focus intro u hc' hf';go_simp<;>rfl);intro K hK;go_simp;apply hK;clear hK K)
          iterate 2 (apply dR rfl rfl (by first|rfl|(simp[Region.wanted,yielded,go_sem]));(focus intro u hc' hf';go_simp<;>rfl);intro K hK;go_simp;apply hK;clear hK K)
          refine pR rfl rfl (ah.grows _ _) (ah.refl _ _) 21 (λK hK=>?_);refine⟨by first|rfl|(simp[Region.wanted,yielded,go_sem]),?_⟩;apply Exists.intro;refine⟨λw' hw'=>?_,λw' hw' hbw=>?_⟩;(focus go_simp;rfl);refine(Em _ _ L _ (uQ.keep (QK hw')) (Ei.keep (QK hw')) KT.2 KT.1).mono ?_;rintro e w3⟨rfl,hb3⟩;refine⟨_,rfl,hb3,λhx=>?_⟩;go_simp;apply hK;clear hK K
          iterate 1 (apply dR rfl rfl (by first|rfl|(simp[Region.wanted,yielded,go_sem]));(focus intro u hc' hf';go_simp<;>rfl);intro K hK;go_simp;apply hK;clear hK K)
          iterate 2 (apply ay rfl rfl rfl;(focus intro u hc' hf';go_simp<;>rfl);intro K hK;go_simp;apply hK;clear hK K)
          iterate 3 (apply dR rfl rfl (by first|rfl|(simp[Region.wanted,yielded,go_sem]));(focus intro u hc' hf';go_simp<;>rfl);intro K hK;go_simp;apply hK;clear hK K)
          iterate 2 (apply ay rfl rfl rfl;(focus intro u hc' hf';go_simp<;>rfl);intro K hK;go_simp;apply hK;clear hK K)
          iterate 3 (apply dR rfl rfl (by first|rfl|(simp[Region.wanted,yielded,go_sem]));(focus intro u hc' hf';go_simp<;>rfl);intro K hK;go_simp;apply hK;clear hK K)
          iterate 2 (apply ay rfl rfl rfl;(focus intro u hc' hf';go_simp<;>rfl);intro K hK;go_simp;apply hK;clear hK K)
          iterate 7 (apply dR rfl rfl (by first|rfl|(simp[Region.wanted,yielded,go_sem]));(focus intro u hc' hf';go_simp<;>rfl);intro K hK;go_simp;apply hK;clear hK K)
          iterate 2 (apply ay rfl rfl rfl;(focus intro u hc' hf';go_simp<;>rfl);intro K hK;go_simp;apply hK;clear hK K)
          iterate 9 (apply dR rfl rfl (by first|rfl|(simp[Region.wanted,yielded,go_sem]));(focus intro u hc' hf';go_simp<;>rfl);intro K hK;go_simp;apply hK;clear hK K)
          iterate 1 (apply ay rfl rfl rfl;(focus intro u hc' hf';go_simp<;>rfl);intro K hK;go_simp;apply hK;clear hK K)
          refine aK ?_
          go_wp2_with fail
          go_meet
          case rel=>exact⟨rfl,QK hx⟩
         case rest =>
          as_aux_lemma =>
           obtain⟨rfl,hB⟩:=hcut
           obtain⟨w22,rfl⟩:∃W,W=wc:=⟨_,rfl⟩
           have GX:=KZ.trans (hB.mono KZ.size)
           have uQ:=uQ.keep hB
           have rE:=rE.keep hB
           clear Ei hDc hD2 hB KZ
           obtain⟨c0,c1⟩:=QD.keep GX
           have z7:=cell_lt c0
           have n1:¬9223372036854775807<s.size+y.size:=by omega
           go_wp2_with fail
           refine(J3.out _ GX).mono ?_
           rintro e QL⟨v23,rfl,Yn,o9⟩
           have BM:aG QL v23 F:=by obtain⟨ys,rfl,hr⟩:=cu.row Yn;exact hr.at
           have QM:=GX.trans (o9.mono GX.size)
           have uQ:=uQ.keep o9
           have rE:=rE.keep o9
           clear c0 c1 z7 J3 Yn o9 GX
           go_upto_region 23 with fail
           go_cut [207] (λaem wx=>aem=.bool false/\Below QL.heap.size QL wx)
           case first =>
            obtain⟨f0,f1⟩:=id rE
            have z17:=cell_lt f0
            have l1:¬(N:Int)<m:=by have:=HF.out.le1;omega
            have l2:¬(B:Int)<r.size:=by have:=HF.out.le2;omega
            by_cases K_:N=m
            ·have hb1:((N:Int)==m)=true:=by simp[K_]
             have HFL:=Lib.hid (HF.out.same K_)
             clear K_
             obtain⟨a23,c23,rfl,_,_⟩:=id BM
             go_wp2_with fail
             refine(Em _ _ L _ (HFL.out▸BM) uQ KT.2 KT.1).mono ?_
             rintro e QN⟨rfl,aen⟩
             go_wp2_with fail
             go_meet
             case rel=>exact⟨rfl,aen⟩
            ·have hb1:((N:Int)==m)=false:=by simp;omega
             clear K_
             go_wp2_with fail
             go_meet
             case rel=>exact⟨rfl,Below.refl _ _⟩
           case rest =>
            as_aux_lemma =>
             obtain⟨rfl,hB⟩:=hcut
             obtain⟨QN,rfl⟩:∃W,W=wc:=⟨_,rfl⟩
             have uS:=QM.trans (hB.mono QM.size)
             have BM:=BM.keep hB
             clear hB QM uQ rE
             cases b
             ·go_wp2_with fail
              go_ret
              exact⟨rfl,up uS⟩
             ·obtain⟨h7,_,L2,n2,R2,x,hr1,hap,hrx,hyx,hr2,hg2⟩:=VH (HY2.out rfl)
              have hfu:=HF.out.full
              rw[hr2]at hfu
              have y9:R2=F/\n2+1=N:=by
               have h:=(Prod.mk.inj hfu).1;exact⟨(Prod.mk.inj h).1,(Prod.mk.inj (Prod.mk.inj h).2).1⟩
              obtain⟨rfl,rfl⟩:=y9
              clear hfu hr2
              have La:=wo hg2
              have j0:=λW (hb:Below QN.heap.size QN W)=>Eh (s++t) W (hct.keep (up (uS.trans (hb.mono uS.size)))) (hpt.keep (up (uS.trans (hb.mono uS.size)))) (by rw[bsize];omega)
              rw[hr1]at j0
              simp only at j0
              have J0:=Lib.hid j0
              clear j0 hr1
              have QO:=KR.keep uS
              have aeo:=QD.keep uS
              obtain⟨d0,d1,e0,e1,e2,e3,_,_⟩:=id QO
              have z5:=cell_lt d0
              have n1:¬9223372036854775807<s.size+t.size:=by omega
              have OX:=Lib.hid hap
              have HRX:=Lib.hid hrx
              have Yo:=Lib.hid hyx
              clear hap hrx hyx
              go_wp2_with fail
              refine(J0.out _ (Below.refl _ _)).mono ?_
              rintro e BN⟨v26,rfl,Yp,GY⟩
              have Yq:aG BN v26 L2:=by obtain⟨ys,rfl,hr⟩:=cu.row Yp;exact hr.at
              have QS:=QO.keep GY
              have Yr:=QS.yP
              clear d0 d1 e0 e1 e2 e3 z5 J0 Yp
              obtain⟨d0,d1,e0,e1,e2,e3,_,_⟩:=id QS
              have z6:=cell_lt e0
              have q1:=λW (hb:Below BN.heap.size BN W)=>zC _ _ L2 en W (Yq.keep hb) La.2 La.1 (Yr.keep hb) hen
              have q2:=λW (hb:Below BN.heap.size BN W)=>Jz _ _ L2 en W (hpt.keep (up (uS.trans ((GY.trans (hb.mono GY.size)).mono uS.size)))) (Yq.keep hb) La.2 La.1 (Yr.keep hb) hen
              rw[OX.out]at q1
              rw[HRX.out]at q2
              have q2':∀W,Below BN.heap.size BN W->Calls Tryz.prog 35 #[v26,.agg #[.int .i64 en.kind,.string en.name,.string en.to,.slice ae en.body.length ce]] W (λr w'=>r=.returned (.tuple #[.string x,.bool true])/\Below W.heap.size W w'):=q2
              have Q1:=Lib.hid q1
              have Q2:=Lib.hid q2'
              clear q1 q2 q2'
              go_wp2_with fail
              refine(Q1.out _ (Below.refl _ _)).mono ?_
              rintro e w27⟨v27,rfl,QT,Lc⟩
              simp only[Option.isSome_some,Option.getD_some]at QT ⊢
              have QU:aG w27 v27 R2:=by obtain⟨ys,rfl,hr⟩:=cu.row QT;exact hr.at
              clear d0 d1 e0 e1 e2 e3 z6 QT
              obtain⟨d0,d1,e0,e1,e2,e3,_,_⟩:=QS.keep Lc
              have z6:=cell_lt e0
              go_wp2_with fail
              refine(Q2.out _ Lc).mono ?_
              rintro e w28⟨rfl,Yt⟩
              have Ld:=GY.trans ((Lc.trans (Yt.mono Lc.size)).mono GY.size)
              have Yu:=uS.trans (Ld.mono uS.size)
              clear d0 d1 e0 e1 e2 e3 z6 Q1 Q2
              obtain⟨d0,d1,e0,e1,e2,e3,_,_⟩:=QO.keep Ld
              obtain⟨c0,c1⟩:=aeo.keep Ld
              have z5:=cell_lt d0
              have z7:=cell_lt c0
              have QU:=QU.keep Yt
              have BM:=BM.keep Ld
              have s1:IntKind.i64.wrap ((s.size:Int)+(t.size:Int))=(s.size:Int)+(t.size:Int):=IntWalk.i64_in _ (by omega)
              have hnb:n2+1<=60:=by
               have h:=HF.out.full;unfold gG at h;split at h
               ·have h2:=(Prod.mk.inj h).1;obtain⟨es,rest,_,h60,_,h4,_⟩:=Jr (s++y);rw[h2]at h4;simp only at h4;omega
               ·cases h
              have s2:IntKind.i64.wrap ((n2:Int)+1)=(n2:Int)+1:=IntWalk.i64_in _ (by omega)
              have n2':¬9223372036854775807<t.size+x.size:=by have h:=congrArg ByteArray.size Yo.out;rw[bsize]at h;omega
              have hlast:(y.toList==(t++x).toList)=true:=by rw[Yo.out];exact beq_self_eq_true _
              go_wp2_with fail
              refine(Em _ _ R2 _ BM QU QE.2 QE.1).mono ?_
              rintro e w29⟨rfl,aep⟩
              have QV:=Yu.trans (aep.mono Yu.size)
              obtain⟨d0,d1,e0,e1,e2,e3,_,_⟩:=KR.keep QV
              obtain⟨c0,c1⟩:=QD.keep QV
              have z5:=cell_lt d0
              have z7:=cell_lt c0
              go_wp2_with fail
              go_ret
              exact⟨rfl,up QV⟩
 ·go_wp2_with fail
  go_ret
  exact⟨rfl,Below.refl _ _⟩
end Go.Proofs.YtikgblkfmpecfaaGreatDoor
