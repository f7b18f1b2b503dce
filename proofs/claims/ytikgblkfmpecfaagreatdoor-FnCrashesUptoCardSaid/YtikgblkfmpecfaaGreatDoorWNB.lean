/-
  The draws: layers. Own work.
-/
import Derived.Test.YtikgblkfmpecfaaGreatDoorWNA
import Derived.Deep.DeepCutAuto
set_option linter.all false
set_option maxRecDepth 100000
set_option maxHeartbeats 8000000
namespace Go.Proofs.YtikgblkfmpecfaaGreatDoor
open Go.RowKit
theorem Ro (bc m:Nat) (p i o mo:Int) (d:Bool) (w:World) (h:aW bc m w) (hm:m+200<=1099511627776) (hp:1<p) (hp2:p<=97) (hi0:0<=i) (hi:i<=12) (ho0:0<=o) (ho:o<=12) (hm0:0<=mo) (hm4:mo<=4) :
  Calls Tryz.prog 73 #[.pointer (some ⟨bc,0,none⟩),.int .i64 p,.int .i64 i,.int .i64 o,.int .i64 mo,.bool d] w (LyP bc (m+200) w):=by
 have hbz:=h.lt;go_enter Tryz.func73,Tryz.ntmps73;go_wp2_with (first
  |(go_at_call 53;refine(Hf i _).mono ?_;rintro e w2⟨v2,rfl,ho2,hb2⟩;obtain⟨a2,c2,rfl⟩:=ho2.slice;have hst:=aeN (bc:=bc) (m:=m) hbz h hi0 hi ho2 hb2)
  |(go_at_call 38;refine(pick_any bc m (mo+1) _ hst.cur (by omega) (by omega)).mono ?_;rintro e w3⟨k,rfl,k0,k1,k2,hc3,hx3⟩;have hst3:=hst.cur' hx3 hbz hc3;have k4:k<=4:=by omega))
 have Rq:=hst.lt;obtain⟨b13,BX⟩:∃b13,b13=w2.heap.size:=⟨_,rfl⟩
 rw[<-BX]at hst3 Rq;rw[<-BX];clear hst hx3 hb2 ho2 BX k2 k1;go_loopw [14,15] (λwv kv wr=>∃(W k:Int) (j:Nat) (v:Value) (ns:List Nd),wv=.int .i64 W/\kv=.int .i64 k/\0<=W/\W<=12/\0<=k/\k+j<=4/\jv bc (m+2+8*j) (1+6*j) w b13 wr v ns) (λ_ kv _=>(intOf kv).toNat)
 case atStart=>exact⟨i,k,0,_,_,rfl,rfl,hi0,hi,k0,by omega,by simpa using hst3⟩
 case round =>
  obtain⟨W,k,j,v,ns,rfl,rfl,hW0,hW1,hk0,hkj,hst⟩:=hrel
  by_cases hk:0<k
  ·go_wp2_with (first
    |(go_at_call 133;refine(aeM bc (m+2+8*j) p d _ hst.cur (by omega) hp (by omega)).mono ?_;rintro e w4⟨lk,lx,lv,rfl,l2,Hg,lx0,lx1,lx2,EF,Y3,lex⟩;obtain⟨lb,lc,rfl,Y4,Ru,Rx,n0,n1,n2⟩:=BU EF)
    |(go_at_call 134;refine(Lm lk lx _ l2).mono ?_;rintro e w5⟨A,B,rfl,A0,A2,B0,B2,HAB,hb5⟩;have hst5:=((hst.cur' lex hbz Y3).keep (aj _ _) hbz).keep hb5 hbz;have qL:=(ah.refl (λk=>k=bc) _).below hb5)
    |(go_at_call 38;refine(pick_any bc _ (W-A+1) _ hst5.cur (by omega) (by omega)).mono ?_;rintro e w6⟨at_,rfl,t0,t1,t2,hc6,hx6⟩;have gW:=hst5.cur' hx6 hbz hc6;obtain⟨q0,EH,uy⟩:=aeO (by have:=hst.ex.size;have:=lex.size;omega) EF (by have:=hst.ex.size;omega) (qL.trans hx6)))
   rotate_left
   all_goals try(refine⟨⟨W,k-1,j+1,v,ns,rfl,rfl,hW0,hW1,by omega,by omega,hst5.mono (by omega) (by omega)⟩,by simp[intOf];omega⟩)
   obtain⟨tb,htb⟩:∃tb,tb=w4.heap.size:=⟨_,rfl⟩
   rw[<-htb]at q0 uy ⊢
   have hat:0<=at_/\at_<=W-A:=by omega
   obtain⟨av,cv,rfl⟩:=gW.own.slice
   have hs6:=gW.ex.size
   have hwr:=hst.ex.size
   have ahE:=lex.size
   have aeT:¬tb=bc:=by omega
   have ahF:wr.heap.size<=tb:=by omega
   have ahG:=cell_lt hst.t0
   have Y5:¬b13=bc:=by omega
   have y0:=gW.t0
   have yz:=cell_lt y0
   clear hst hst5 qL hx6 hb5 EF Y3 lex hst3 hc3 n0 n1 n2 hc6 htb Ru
   obtain⟨dd,dl,dc⟩:=gW.dn
   refine rV (C:=ah (λk=>k=bc) _) 12 [0,1,2,3,4,5,6,7,8,9,10] [11] (by kernel_rfl) (by kernel_rfl) (ah.grows _ _) (ah.refl _ _) ?_
   iterate 9 (apply fF rfl rfl rfl;(focus intro u hc' hf';(try simp only[World.size_drew]at hc' hf');go_simp<;>rfl);intro K hK;go_simp;apply hK;clear hK K)
   have uU:∀w7,Below w6.drew.heap.size w6.drew w7->Below w6.heap.size w6 w7:=λw7 hb=>((Below.refl _ _).drew).trans (hb.mono (by simp))
   refine aX rfl rfl rfl (ah.grows _ _) (ah.refl _ _) 77 (λK hK=>?_);apply Exists.intro;refine⟨λw' hw'=>?_,λw7 hw7 jw=>?_⟩;(focus go_simp;rfl);refine(Q8 _ _ _ _ _ (au.keep (uU _ jw) EH).at (by simp)).mono ?_;rintro e w8⟨v8,rfl,zL,lZ,hb8⟩;refine⟨_,rfl,hb8,λhx=>?_⟩;go_simp;apply hK;clear hK K
   have xX:=Rl (au.keep (uU _ jw) EH) hb8 (by have:=(uU _ jw).size;omega) zL lZ
   have ji:=(gW.keep (uU _ jw) hbz).keep hb8 hbz
   have hs8:=hb8.size
   have Ry:b13<wr.heap.size/\w.heap.size<wr.heap.size:=by omega
   have hs7:=(uU _ jw).size
   have BZ:Dn 5 (jS at_ [⟨lk,lx,ByteArray.empty⟩] (W-A-at_)):=Dn.lay _ _ (by omega) (by omega) (Dn.leaf (.inr ⟨by simp;omega,Hg,lx0,by simp;omega⟩))
   obtain⟨ys,hys⟩:∃ys,ys=jS at_ [⟨lk,lx,ByteArray.empty⟩] (W-A-at_):=⟨_,rfl⟩
   have e1:IntKind.i64.wrap (W-A)=W-A:=IntWalk.i64_in _ (by omega)
   have e2:IntKind.i64.wrap (W-A-at_)=W-A-at_:=IntWalk.i64_in _ (by omega)
   rw[e1,e2,<-hys]at xX zL lZ
   rw[<-hys]at BZ
   have dl8:ys.length<=5:=by obtain⟨_,_,_,h,_⟩:=BZ;exact h
   obtain⟨a8,c8,rfl⟩:=xX.slice
   clear hys zL lZ
   refine Eu rfl rfl rfl (hx) 135 (λk hk=>by have:k=bc:=hk;simp;omega) (λK hK=>?_);apply Exists.intro;refine⟨λw' hw'=>?_,λw9 eu ng=>?_⟩;(focus go_simp;rfl);refine(YV bc _ _ _ ns ys _ (ji.keep ng hbz).cur (by omega) (au.tm (ji.keep ng hbz).own (by omega)) (au.tm (au.keep ng xX) (by omega)) (by omega) (by omega)).mono ?_;rintro e w10⟨v10,zs,rfl,hor,htm,uO,uV⟩;refine⟨_,rfl,uV,λhx=>?_⟩;go_simp;apply hK;clear hK K
   obtain⟨lD,xY,Rz,B_⟩:=YX hbz (ji.keep ng hbz) (au.keep ng xX) BZ Ry hor uO uV
   obtain⟨a10,c10,rfl⟩:=xY.slice
   refine aK ?_
   refine⟨ah (λj=>j=b13) w10,w10.heap.size,ah.grows _ _,ah.refl _ _,?_⟩
   refine eH rfl rfl rfl (ah.grows _ _) (ah.refl _ _) (λK hK=>?_)
   intro iE zM ku
   have sJ:=lD.keep ku hbz
   have g0:=sJ.t0
   have gf:=sJ.tf
   have gz:=cell_lt lD.t0
   refine⟨iE.setCell ⟨b13,0,none⟩ (.slice a10 zs.length c10),?_,⟨aB zM (.inr rfl) _,by simp,λq hq _ _=>Below.heap_setCell _ _ _ _ (λhh=>by have:q=b13:=hh;omega)⟩,?_⟩
   ·go_simp
   go_simp
   refine hK _ _ _ ?_
   clear hK K
   refine aK ?_
   have EI:=sJ.set hbz (au.keep ku xY) Rz B_
   go_wp2
   exact⟨⟨W+(B-A),k-1,j+1,_,zs,by first|rfl|(congr 1;omega),rfl,by omega,by omega,by omega,by omega,EI.mono (by omega) (by omega)⟩,by simp[intOf];omega⟩
  ·have Y6:=hst.mono (m':=m+34) (k':=25) (by omega) (by omega)
   go_wp2_with fail
   clear hst hst3 hc3 hk hkj hk0 k0 k4
   go_loopw [14] (λwv wr=>∃(W:Int) (j:Nat) (v:Value) (ns:List Nd),wv=.int .i64 W/\0<=W/\W<=12/\(W-o).natAbs+j<=12/\jv bc (m+34+8*j) (25+6*j) w b13 wr v ns) (λwv _=>(intOf wv-o).natAbs)
   case atStart=>exact⟨W,0,_,_,rfl,hW0,hW1,by omega,by simpa using Y6⟩
   case round =>
    clear hW0 hW1 Y6
    obtain⟨W,j,v,ns,rfl,hW0,hW1,hj,hst⟩:=hrel
    by_cases hwo:W=o
    ·obtain⟨av,cv,rfl⟩:=hst.own.slice
     have r0:=hst.r0
     have rf:=hst.rf
     have t0:=hst.t0
     have tz:=cell_lt t0
     have hlt:=hst.lt
     go_wp2
     have i_:(wr.setCell ⟨w.heap.size,0,none⟩ (.slice av ns.length cv)).cell? ⟨w.heap.size,0,none⟩=some (.slice av ns.length cv):=by go_simp
     have hS:ah (λk=>k=w.heap.size) wr (wr.setCell ⟨w.heap.size,0,none⟩ (.slice av ns.length cv)):=aB (a:=⟨w.heap.size,0,none⟩) (ah.refl (λk=>k=w.heap.size) _) (.inr rfl) _
     refine bodyPost_ret (v:=.agg #[.slice av ns.length cv]) (by simp[results,Tryz.results73,go_sem,i_]) rfl ⟨_,ns,rfl,hst.dn.mono (by omega),au.bY hst.own (by show w.heap.size<_;omega) _,(hst.cur.mono (by omega)).exc (T:=λk=>k=w.heap.size) hS (λk hk=>by omega),aB hst.ex (.inl (Nat.le_refl _)) _⟩
    ·have gwo:¬W=o:=hwo
     have hn4:=Y2 wr 4 12 5 9
     have hal:=aj wr (.cells #[.int .i64 4,.int .i64 12,.int .i64 5,.int .i64 9] 3)
     have RD:=hst.keep hal hbz
     have ahH:=hst.ex.size
     go_upto_if 89 with(first
      |(go_at_call 80;refine(Rj bc _ _ [4,12,5,9] _ RD.cur (by omega) hn4 (by simp) (by simp) (λq hq=>by simp[Value.ownBlock]at hq;omega)).mono ?_;rintro e w4⟨x,hx,rfl,hc4,hx4⟩;have qC:=RD.cur' hx4 hbz hc4)
      |(go_at_call 100;refine(zI _ _ _).mono ?_;rintro e w5⟨v5,rfl,dZ,hb5⟩;obtain⟨lb,lc,rfl,Y4,Ru,Rx,n0,n1,n2⟩:=BU dZ;have hst5:=aeR (qC.keep hb5 hbz) hbz dZ (cell_lt qC.t0)))
     have htw:wr.heap.size<=w5.heap.size:=by have:=hal.size;have:=hx4.size;have:=hb5.size;omega
     have hv:∀q,v.ownBlock=some q->q≠w5.heap.size:=λq hq=>by have:=(World.ownsRow.lt hst.own q hq).2;omega
     have Y7:Rn W o x\/W<o:=by
      by_cases hh:W<o
      ·exact .inr hh
      ·left;refine⟨λh=>absurd h hh,λ_=>?_⟩;simp at hx;rcases hx with rfl|rfl|rfl|rfl<;>simp[gZ]
     have hx2:2<=x/\x<=14:=by simp at hx;omega
     obtain⟨wb,hwb⟩:∃wb,wb=w5.alloc (.cells #[.slice (some ⟨lb,0,none⟩) 1 lc] 27):=⟨_,rfl⟩
     obtain⟨tb,htb⟩:∃tb,tb=w5.heap.size:=⟨_,rfl⟩
     rw[<-hwb,<-htb]at hst5
     rw[<-htb]at hv
     rw[<-hwb,<-htb]
     have EJ:jT bc (m+34+8*j+2) (25+6*j) w b13 tb wb v ns x lb lc:=hst5
     clear hwb htb htw qC RD hn4 hal hx4 hb5 dZ n0 n1 n2 hx hc4 hst5 Y4 Ru hst
     go_cut [20] (λs20 wx=>s20=.pointer (some ⟨tb,0,none⟩)/\∃(lk:Int) (lb lc:Nat),jT bc (m+34+8*j+4) (25+6*j) w b13 tb wx v ns lk lb lc/\2<=lk/\lk<=14/\Hid (Rn W o lk))
     case first =>
      by_cases hlt:W<o
      ·have hn4:=Y2 wb 10 6 3 11
       have hal:=aj wb (.cells #[.int .i64 10,.int .i64 6,.int .i64 3,.int .i64 11] 3)
       have hsb:=EJ.keep hal hbz
       have hbw:=cell_lt EJ.1.t0
       go_wp2_with (first
        |(go_at_call 80;refine(Rj bc _ _ [10,6,3,11] _ hsb.1.cur (by omega) hn4 (by simp) (by simp) (λq hq=>by simp[Value.ownBlock]at hq;have:=EJ.1.lt;omega)).mono ?_;rintro e w6⟨y,hy,rfl,hc6,hx6⟩;have gW:=hsb.cur' hx6 hbz hc6)
        |(go_at_call 100;refine(zI _ _ _).mono ?_;rintro e w7⟨v7,rfl,kS,hb7⟩;obtain⟨lb',EG,rfl,ahI,ahJ,ahK,m0,m1,m2⟩:=BU kS;have Cb:=gW.keep hb7 hbz;have z0:=Cb.2.2.1;have zf:=Cb.2.2.2.1;have zl:=cell_lt z0))
       have hNy:Rn W o y:=by
        refine⟨λ_=>?_,λh=>by omega⟩;simp at hy;rcases hy with rfl|rfl|rfl|rfl<;>simp[gZ]
       have hy2:2<=y/\y<=14:=by simp at hy;omega
       have hlb:lb'≠tb:=by have:=cell_lt gW.2.2.1;omega
       go_meet
       case rel=>exact⟨rfl,y,lb',EG,Lr Cb hbz kS (cell_lt gW.1.t0) hlb hv,hy2.1,hy2.2,Lib.hid hNy⟩
      ·have uj:jT bc (m+34+8*j+4) (25+6*j) w b13 tb wb v ns x lb lc:=⟨EJ.1.mono (by omega) (by omega),EJ.2⟩
       have hN9:=Lib.hid (Y7.resolve_right hlt)
       go_wp2_with fail
       go_meet
       case rel=>exact⟨rfl,x,lb,lc,uj,hx2.1,hx2.2,hN9⟩
     case rest =>
      obtain⟨rfl,lk,lb,lc,hbx,l2,Hg,hN⟩:=hcut
      clear EJ Y7 hx2 Rx
      have z0:=hbx.2.2.1
      have zl:=cell_lt z0
      obtain⟨n0,n1,n2,Rx,ll⟩:=aeS hbx
      go_upto_if 104 with(go_at_call 134;refine(Lm lk 0 _ l2).mono ?_;rintro e w6⟨A,B,rfl,A0,A2,B0,B2,HAB,hb6⟩)
      have wI:=hbx.keep hb6 hbz
      clear n0 n1 n2 z0 zl
      have hab:=HAB.out
      have hAB:(W<o/\B=A+1)\/(o<W/\B+1=A):=by
       rcases Int.lt_or_lt_of_ne gwo with h|h
       ·left;refine⟨h,?_⟩;rcases hN.out.1 h with e|e<;>rw[e]at hab<;>simp at hab<;>omega
       ·right;refine⟨h,?_⟩;rcases hN.out.2 h with e|e<;>rw[e]at hab<;>simp at hab<;>omega
      clear hab
      have HH:=Lib.hid hAB
      clear hAB
      go_cut [20,21,22] (λs20 s21 s22 wx=>s20=.pointer (some ⟨tb,0,none⟩)/\∃(lk:Int) (lb lc:Nat) (A B:Int),s21=.int .i64 A/\s22=.int .i64 B/\jT bc (m+34+8*j+4) (25+6*j) w b13 tb wx v ns lk lb lc/\2<=lk/\lk<=14/\0<=A/\A<=W/\A<=2/\0<=B/\B<=2/\Hid ((W<o/\B=A+1)\/(o<W/\B+1=A)))
      case first =>
       by_cases hAW:W<A
       ·by_cases hlt:W<o
        ·go_wp2_with (first
          |(go_at_call 100;refine(zI 4 0 _).mono ?_;rintro e w7⟨v7,rfl,kS,hb7⟩;obtain⟨Ls,Y8,rfl,la7,le7,lf7,m70,m71,m72⟩:=BU kS;have og:=jT.keep wI hb7 hbz;have z7:=og.2.2.1;have zf7:=og.2.2.2.1;have zl7:=cell_lt z7;have RF:¬Ls=tb:=(by have:=cell_lt (jT.keep wI (Below.refl _ _) hbz).2.2.1;omega);have Hl:=Lr og hbz kS (cell_lt (jT.keep wI (Below.refl _ _) hbz).1.t0) RF hv)
          |(go_at_call 100;refine(zI 6 0 _).mono ?_;rintro e w8⟨v8,rfl,lZ,hb8⟩;obtain⟨Y9,lc8,rfl,la8,le8,lf8,m80,m81,m82⟩:=BU lZ;have ji:=jT.keep Hl hb8 hbz;have z8:=ji.2.2.1;have zf8:=ji.2.2.2.1;have zl8:=cell_lt z8;have aeU:¬Y9=tb:=(by have:=cell_lt (jT.keep Hl (Below.refl _ _) hbz).2.2.1;omega);have bx8:=Lr ji hbz lZ (cell_lt (jT.keep Hl (Below.refl _ _) hbz).1.t0) aeU hv)
          |(go_at_call 134;refine(Lm 6 0 _ (by omega)).mono ?_;rintro e w9⟨A',B',rfl,A0',A2',B0',B2',RG,bG⟩))
         go_meet
         case rel =>
          have e:=RG.out
          simp[gZ]at e
          exact⟨rfl,6,Y9,lc8,A',B',rfl,rfl,bx8.keep bG hbz,by omega,by omega,by omega,by omega,by omega,by omega,by omega,Lib.hid (.inl ⟨hlt,by omega⟩)⟩
        ·go_wp2_with (first
          |(go_at_call 100;refine(zI 4 0 _).mono ?_;rintro e w7⟨v7,rfl,kS,hb7⟩;obtain⟨Ls,Y8,rfl,la7,le7,lf7,m70,m71,m72⟩:=BU kS;have og:=jT.keep wI hb7 hbz;have z7:=og.2.2.1;have zf7:=og.2.2.2.1;have zl7:=cell_lt z7;have RF:¬Ls=tb:=(by have:=cell_lt (jT.keep wI (Below.refl _ _) hbz).2.2.1;omega);have Hl:=Lr og hbz kS (cell_lt (jT.keep wI (Below.refl _ _) hbz).1.t0) RF hv)
          |(go_at_call 134;refine(Lm 4 0 _ (by omega)).mono ?_;rintro e w9⟨A',B',rfl,A0',A2',B0',B2',RG,bG⟩))
         go_meet
         case rel =>
          have e:=RG.out
          simp[gZ]at e
          exact⟨rfl,4,Ls,Y8,A',B',rfl,rfl,Hl.keep bG hbz,by omega,by omega,by omega,by omega,by omega,by omega,by omega,Lib.hid (.inr ⟨by omega,by omega⟩)⟩
       ·go_wp2_with fail
        go_meet
        case rel=>exact⟨rfl,lk,lb,lc,A,B,rfl,rfl,wI,l2,Hg,A0,by omega,A2,B0,B2,HH⟩
      case rest =>
       obtain⟨rfl,lk,lb,lc,A,B,rfl,rfl,RH,l2,Hg,A0,AW,A2,B0,B2,HH⟩:=hcut
       clear hbx wI
       go_wp2_with (go_at_call 38;refine(pick_any bc _ (W-A+1) _ RH.1.cur (by omega) (by omega)).mono ?_;rintro e w6⟨at_,rfl,t0,t1,t2,hc6,hx6⟩;have wI:=RH.cur' hx6 hbz hc6)
       have hat:0<=at_/\at_<=W-A:=by omega
       obtain⟨gW,ahL,q0,qf6,Bb,EH,hBb,ahM⟩:=wI
       have uy:=cell_lt q0
       obtain⟨av,cv,rfl⟩:=gW.own.slice
       have hs6:=gW.ex.size
       have ahN:=gW.lt
       have aeT:¬tb=bc:=by omega
       have Y5:¬b13=bc:=by omega
       have y0:=gW.t0
       have yz:=cell_lt y0
       have dH:Bb<=w6.heap.size:=by have:=World.ownsRow.lt EH lb rfl;omega
       clear hx6 hc6 RH
       obtain⟨dd,dl,dc⟩:=gW.dn
       refine rV (C:=ah (λk=>k=bc) _) 12 [0,1,2,3,4,5,6,7,8,9,10] [11] (by kernel_rfl) (by kernel_rfl) (ah.grows _ _) (ah.refl _ _) ?_
       iterate 9 (apply fF rfl rfl rfl;(focus intro u hc' hf';(try simp only[World.size_drew]at hc' hf');go_simp<;>rfl);intro K hK;go_simp;apply hK;clear hK K)
       have uU:∀w7,Below w6.drew.heap.size w6.drew w7->Below w6.heap.size w6 w7:=λw7 hb=>((Below.refl _ _).drew).trans (hb.mono (by simp))
       refine aX rfl rfl rfl (ah.grows _ _) (ah.refl _ _) 77 (λK hK=>?_);apply Exists.intro;refine⟨λw' hw'=>?_,λw7 hw7 jw=>?_⟩;(focus go_simp;rfl);refine(Q8 _ _ _ _ _ (au.keep (uU _ jw) EH).at (by simp)).mono ?_;rintro e w8⟨v8,rfl,zL,lZ,hb8⟩;refine⟨_,rfl,hb8,λhx=>?_⟩;go_simp;apply hK;clear hK K
       have xX:=Rl (au.keep (uU _ jw) EH) hb8 (by have:=(uU _ jw).size;omega) zL lZ
       have ji:=(gW.keep (uU _ jw) hbz).keep hb8 hbz
       have hs8:=hb8.size
       have Ry:b13<Bb/\w.heap.size<Bb:=by omega
       have hs7:=(uU _ jw).size
       have BZ:Dn 5 (jS at_ [⟨lk,0,ByteArray.empty⟩] (W-A-at_)):=Dn.lay _ _ (by omega) (by omega) (Dn.leaf (.inr ⟨by simp;omega,Hg,by simp,by simp⟩))
       obtain⟨ys,hys⟩:∃ys,ys=jS at_ [⟨lk,0,ByteArray.empty⟩] (W-A-at_):=⟨_,rfl⟩
       have e1:IntKind.i64.wrap (W-A)=W-A:=IntWalk.i64_in _ (by omega)
       have e2:IntKind.i64.wrap (W-A-at_)=W-A-at_:=IntWalk.i64_in _ (by omega)
       rw[e1,e2,<-hys]at xX zL lZ
       rw[<-hys]at BZ
       have dl8:ys.length<=5:=by obtain⟨_,_,_,h,_⟩:=BZ;exact h
       obtain⟨a8,c8,rfl⟩:=xX.slice
       clear hys zL lZ e1 e2
       refine Eu rfl rfl rfl (hx) 135 (λk hk=>by have:k=bc:=hk;simp;omega) (λK hK=>?_);apply Exists.intro;refine⟨λw' hw'=>?_,λw9 eu ng=>?_⟩;(focus go_simp;rfl);refine(YV bc _ _ _ ns ys _ (ji.keep ng hbz).cur (by omega) (au.tm (ji.keep ng hbz).own (by omega)) (au.tm (au.keep ng xX) (by omega)) (by omega) (by omega)).mono ?_;rintro e w10⟨v10,zs,rfl,hor,htm,uO,uV⟩;refine⟨_,rfl,uV,λhx=>?_⟩;go_simp;apply hK;clear hK K
       obtain⟨lD,xY,Rz,B_⟩:=YX hbz (ji.keep ng hbz) (au.keep ng xX) BZ Ry hor uO uV
       obtain⟨a10,c10,rfl⟩:=xY.slice
       refine aK ?_
       refine⟨ah (λj=>j=b13) w10,w10.heap.size,ah.grows _ _,ah.refl _ _,?_⟩
       refine eH rfl rfl rfl (ah.grows _ _) (ah.refl _ _) (λK hK=>?_)
       intro iE zM ku
       have sJ:=lD.keep ku hbz
       have g0:=sJ.t0
       have gf:=sJ.tf
       have gz:=cell_lt lD.t0
       refine⟨iE.setCell ⟨b13,0,none⟩ (.slice a10 zs.length c10),?_,⟨aB zM (.inr rfl) _,by simp,λq hq _ _=>Below.heap_setCell _ _ _ _ (λhh=>by have:q=b13:=hh;omega)⟩,?_⟩
       ·go_simp
       go_simp
       refine hK _ _ _ ?_
       clear hK K
       refine aK ?_
       have EI:=sJ.set hbz (au.keep ku xY) Rz B_
       go_wp2
       have hh:=HH.out
       exact⟨⟨W+(B-A),j+1,_,zs,rfl,by omega,by omega,by omega,EI.mono (by omega) (by omega)⟩,by simp[intOf];omega⟩
end Go.Proofs.YtikgblkfmpecfaaGreatDoor
