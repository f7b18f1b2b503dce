/-
  The draws: layers. Own work.
-/
import Derived.Test.YtikgblkfmpecfaaGreatDoorKNA
import Derived.Deep.DeepCutAuto
set_option linter.all false
set_option maxRecDepth 100000
set_option maxHeartbeats 8000000
namespace Go.Proofs.YtikgblkfmpecfaaGreatDoor
open Go.RowKit
theorem layers_any (bc m:Nat) (p i o mo:Int) (d:Bool) (w:World) (h:Cur bc m w) (hm:m+200≤1099511627776) (hp:1<p) (hp2:p≤97) (hi0:0≤i) (hi:i≤12) (ho0:0≤o) (ho:o≤12) (hm0:0≤mo) (hm4:mo≤4) :
  Calls Tryz.prog 73 #[.pointer (some ⟨bc,0,none⟩),.int .i64 p,.int .i64 i,.int .i64 o,.int .i64 mo,.bool d] w (LyP bc (m+200) w):=by
 have hbz:=h.lt
 go_enter Tryz.func73,Tryz.ntmps73
 go_wp2_with (first
  | (go_at_call 53;refine (tmId_any i _).mono ?_;rintro e w2 ⟨v2,rfl,ho2,hb2⟩;obtain ⟨a2,c2,rfl⟩:=ho2.slice;have hst:=ly_init (bc:=bc) (m:=m) hbz h hi0 hi ho2 hb2)
  | (go_at_call 38;refine (pick_any bc m (mo+1) _ hst.cur (by omega) (by omega)).mono ?_;rintro e w3 ⟨k,rfl,k0,k1,k2,hc3,hx3⟩;have hst3:=hst.cur' hx3 hbz hc3;have k4:k≤4:=by omega))
 have hb13:=hst.lt
 obtain ⟨b13,hb13e⟩:∃ b13,b13=w2.heap.size:=⟨_,rfl⟩
 rw [← hb13e] at hst3 hb13
 rw [← hb13e]
 clear hst hx3 hb2 ho2 hb13e k2 k1
 go_loopw [14,15] (fun wv kv wr=>∃ (W k:Int) (j:Nat) (v:Value) (ns:List Nd),wv=.int .i64 W∧kv=.int .i64 k∧0≤W∧W≤12∧0≤k∧k+j≤4∧LySt bc (m+2+8 * j) (1+6 * j) w b13 wr v ns) (fun _ kv _=>(intOf kv).toNat)
 case atStart=>exact ⟨i,k,0,_,_,rfl,rfl,hi0,hi,k0,by omega,by simpa using hst3⟩
 case round =>
  obtain ⟨W,k,j,v,ns,rfl,rfl,hW0,hW1,hk0,hkj,hst⟩:=hrel
  by_cases hk:0<k
  ·go_wp2_with (first
    | (go_at_call 133;refine (leaf_any bc (m+2+8 * j) p d _ hst.cur (by omega) hp (by omega)).mono ?_;rintro e w4 ⟨lk,lx,lv,rfl,l2,l14,lx0,lx1,lx2,lown,lcur,lex⟩;obtain ⟨lb,lc,rfl,lb0,lb1,lcc,n0,n1,n2⟩:=nd1 lown)
    | (go_at_call 134;refine (tmArity_leaf lk lx _ l2).mono ?_;rintro e w5 ⟨A,B,rfl,A0,A2,B0,B2,HAB,hb5⟩;have hst5:=((hst.cur' lex hbz lcur).keep (alloc_below _ _) hbz).keep hb5 hbz;have hE5:=(Exc.refl (fun k=>k=bc) _).below hb5)
    | (go_at_call 38;refine (pick_any bc _ (W - A+1) _ hst5.cur (by omega) (by omega)).mono ?_;rintro e w6 ⟨at_,rfl,t0,t1,t2,hc6,hx6⟩;have hst6:=hst5.cur' hx6 hbz hc6;obtain ⟨q0,lown6,hz6⟩:=lf_box (by have:=hst.ex.size;have:=lex.size;omega) lown (by have:=hst.ex.size;omega) (hE5.trans hx6)))
   rotate_left
   all_goals try (refine ⟨⟨W,k - 1,j+1,v,ns,rfl,rfl,hW0,hW1,by omega,by omega,hst5.mono (by omega) (by omega)⟩,by simp [intOf];omega⟩)
   obtain ⟨tb,htb⟩:∃ tb,tb=w4.heap.size:=⟨_,rfl⟩
   rw [← htb] at q0 hz6 ⊢
   have hat:0≤at_∧at_≤W - A:=by omega
   obtain ⟨av,cv,rfl⟩:=hst6.own.slice
   have hs6:=hst6.ex.size
   have hwr:=hst.ex.size
   have hwr4:=lex.size
   have htbc:¬ tb=bc:=by omega
   have htwr:wr.heap.size≤tb:=by omega
   have h13r:=cell_lt hst.t0
   have hbbc:¬ b13=bc:=by omega
   have y0:=hst6.t0
   have yz:=cell_lt y0
   clear hst hst5 hE5 hx6 hb5 lown lcur lex hst3 hc3 n0 n1 n2 hc6 htb lb1
   obtain ⟨dd,dl,dc⟩:=hst6.dn
   refine region_acts2 (C:=Exc (fun k=>k=bc) _) 12 [0,1,2,3,4,5,6,7,8,9,10] [11] (by kernel_rfl) (by kernel_rfl) (Exc.grows _ _) (Exc.refl _ _) ?_
   iterate 9 (apply x_sT rfl rfl rfl;(focus intro u hc' hf';(try simp only [World.size_drew] at hc' hf');go_simp <;> rfl);intro K hK;go_simp;apply hK;clear hK K)
   have B67:∀ w7,Below w6.drew.heap.size w6.drew w7 → Below w6.heap.size w6 w7:=fun w7 hb=>((Below.refl _ _).drew).trans (hb.mono (by simp))
   refine x_call rfl rfl rfl (Exc.grows _ _) (Exc.refl _ _) 77 (fun K hK=>?_);apply Exists.intro;refine ⟨fun w' hw'=>?_,fun w7 hw7 hbw7=>?_⟩;(focus go_simp;rfl);refine (tmLayer_any _ _ _ _ _ (NdsOwn.keep (B67 _ hbw7) lown6).at (by simp)).mono ?_;rintro e w8 ⟨v8,rfl,hn8,ho8,hb8⟩;refine ⟨_,rfl,hb8,fun hx=>?_⟩;go_simp;apply hK;clear hK K
   have own8:=lay_own (NdsOwn.keep (B67 _ hbw7) lown6) hb8 (by have:=(B67 _ hbw7).size;omega) hn8 ho8
   have st8:=(hst6.keep (B67 _ hbw7) hbz).keep hb8 hbz
   have hs8:=hb8.size
   have hs8w:b13<wr.heap.size∧w.heap.size<wr.heap.size:=by omega
   have hs7:=(B67 _ hbw7).size
   have dn8:Dn 5 (layL at_ [⟨lk,lx,ByteArray.empty⟩] (W - A - at_)):=Dn.lay _ _ (by omega) (by omega) (Dn.leaf (.inr ⟨by simp;omega,l14,lx0,by simp;omega⟩))
   obtain ⟨ys,hys⟩:∃ ys,ys=layL at_ [⟨lk,lx,ByteArray.empty⟩] (W - A - at_):=⟨_,rfl⟩
   have e1:IntKind.i64.wrap (W - A)=W - A:=IntWalk.i64_in _ (by omega)
   have e2:IntKind.i64.wrap (W - A - at_)=W - A - at_:=IntWalk.i64_in _ (by omega)
   rw [e1,e2,← hys] at own8 hn8 ho8
   rw [← hys] at dn8
   have dl8:ys.length≤5:=by obtain ⟨_,_,_,h,_⟩:=dn8;exact h
   obtain ⟨a8,c8,rfl⟩:=own8.slice
   clear hys hn8 ho8
   refine x_callT rfl rfl rfl (hx) 135 (fun k hk=>by have:k=bc:=hk;simp;omega) (fun K hK=>?_);apply Exists.intro;refine ⟨fun w' hw'=>?_,fun w9 hw9 hbw9=>?_⟩;(focus go_simp;rfl);refine (then_any bc _ _ _ ns ys _ (st8.keep hbw9 hbz).cur (by omega) (NdsOwn.tm (st8.keep hbw9 hbz).own (by omega)) (NdsOwn.tm (NdsOwn.keep hbw9 own8) (by omega)) (by omega) (by omega)).mono ?_;rintro e w10 ⟨v10,zs,rfl,hor,htm,hc10,hx10⟩;refine ⟨_,rfl,hx10,fun hx=>?_⟩;go_simp;apply hK;clear hK K
   obtain ⟨st10,own10,ne10,dn10⟩:=ly_next hbz (st8.keep hbw9 hbz) (NdsOwn.keep hbw9 own8) dn8 hs8w hor hc10 hx10
   obtain ⟨a10,c10,rfl⟩:=own10.slice
   refine x_nil ?_
   refine ⟨Exc (fun j=>j=b13) w10,w10.heap.size,Exc.grows _ _,Exc.refl _ _,?_⟩
   refine x_do rfl rfl rfl (Exc.grows _ _) (Exc.refl _ _) (fun K hK=>?_)
   intro w11 hw11 hb11
   have st11:=st10.keep hb11 hbz
   have g0:=st11.t0
   have gf:=st11.tf
   have gz:=cell_lt st10.t0
   refine ⟨w11.setCell ⟨b13,0,none⟩ (.slice a10 zs.length c10),?_,⟨exc_set hw11 (.inr rfl) _,by simp,fun q hq _ _=>Below.heap_setCell _ _ _ _ (fun hh=>by have:q=b13:=hh;omega)⟩,?_⟩
   ·go_simp
   go_simp
   refine hK _ _ _ ?_
   clear hK K
   refine x_nil ?_
   have st12:=st11.set hbz (NdsOwn.keep hb11 own10) ne10 dn10
   go_wp2
   exact ⟨⟨W+(B - A),k - 1,j+1,_,zs,by first|rfl|(congr 1;omega),rfl,by omega,by omega,by omega,by omega,st12.mono (by omega) (by omega)⟩,by simp [intOf];omega⟩
  ·have hst0:=hst.mono (m':=m+34) (k':=25) (by omega) (by omega)
   go_wp2_with fail
   clear hst hst3 hc3 hk hkj hk0 k0 k4
   go_loopw [14] (fun wv wr=>∃ (W:Int) (j:Nat) (v:Value) (ns:List Nd),wv=.int .i64 W∧0≤W∧W≤12∧(W - o).natAbs+j≤12∧LySt bc (m+34+8 * j) (25+6 * j) w b13 wr v ns) (fun wv _=>(intOf wv - o).natAbs)
   case atStart=>exact ⟨W,0,_,_,rfl,hW0,hW1,by omega,by simpa using hst0⟩
   case round =>
    clear hW0 hW1 hst0
    obtain ⟨W,j,v,ns,rfl,hW0,hW1,hj,hst⟩:=hrel
    by_cases hwo:W=o
    ·obtain ⟨av,cv,rfl⟩:=hst.own.slice
     have r0:=hst.r0
     have rf:=hst.rf
     have t0:=hst.t0
     have tz:=cell_lt t0
     have hlt:=hst.lt
     go_wp2
     have hz7:(wr.setCell ⟨w.heap.size,0,none⟩ (.slice av ns.length cv)).cell? ⟨w.heap.size,0,none⟩=some (.slice av ns.length cv):=by go_simp
     have hS:Exc (fun k=>k=w.heap.size) wr (wr.setCell ⟨w.heap.size,0,none⟩ (.slice av ns.length cv)):=exc_set (a:=⟨w.heap.size,0,none⟩) (Exc.refl (fun k=>k=w.heap.size) _) (.inr rfl) _
     refine bodyPost_ret (v:=.agg #[.slice av ns.length cv]) (by simp [results,Tryz.results73,go_sem,hz7]) rfl ⟨_,ns,rfl,hst.dn.mono (by omega),NdsOwn.setLow hst.own (by show w.heap.size<_;omega) _,(hst.cur.mono (by omega)).exc (T:=fun k=>k=w.heap.size) hS (fun k hk=>by omega),exc_set hst.ex (.inl (Nat.le_refl _)) _⟩
    ·have gwo:¬ W=o:=hwo
     have hn4:=nums4 wr 4 12 5 9
     have hal:=alloc_below wr (.cells #[.int .i64 4,.int .i64 12,.int .i64 5,.int .i64 9] 3)
     have hsta:=hst.keep hal hbz
     have hwrs:=hst.ex.size
     go_upto_if 89 with (first
      | (go_at_call 80;refine (among_any bc _ _ [4,12,5,9] _ hsta.cur (by omega) hn4 (by simp) (by simp) (fun q hq=>by simp [Value.ownBlock] at hq;omega)).mono ?_;rintro e w4 ⟨x,hx,rfl,hc4,hx4⟩;have hst4:=hsta.cur' hx4 hbz hc4)
      | (go_at_call 100;refine (tmOne_any _ _ _).mono ?_;rintro e w5 ⟨v5,rfl,ho5,hb5⟩;obtain ⟨lb,lc,rfl,lb0,lb1,lcc,n0,n1,n2⟩:=nd1 ho5;have hst5:=bx_new (hst4.keep hb5 hbz) hbz ho5 (cell_lt hst4.t0)))
     have htw:wr.heap.size≤w5.heap.size:=by have:=hal.size;have:=hx4.size;have:=hb5.size;omega
     have hv:∀ q,v.ownBlock=some q → q ≠ w5.heap.size:=fun q hq=>by have:=(World.ownsRow.lt hst.own q hq).2;omega
     have hx14:Nrr W o x∨W<o:=by
      by_cases hh:W<o
      ·exact .inr hh
      ·left
       refine ⟨fun h=>absurd h hh,fun _=>?_⟩
       simp at hx
       rcases hx with rfl|rfl|rfl|rfl <;> simp [kindW]
     have hx2:2≤x∧x≤14:=by simp at hx;omega
     obtain ⟨wb,hwb⟩:∃ wb,wb=w5.alloc (.cells #[.slice (some ⟨lb,0,none⟩) 1 lc] 27):=⟨_,rfl⟩
     obtain ⟨tb,htb⟩:∃ tb,tb=w5.heap.size:=⟨_,rfl⟩
     rw [← hwb,← htb] at hst5
     rw [← htb] at hv
     rw [← hwb,← htb]
     have hst5':BxSt bc (m+34+8 * j+2) (25+6 * j) w b13 tb wb v ns x lb lc:=hst5
     clear hwb htb htw hst4 hsta hn4 hal hx4 hb5 ho5 n0 n1 n2 hx hc4 hst5 lb0 lb1 hst
     go_cut [20] (fun s20 wx=>s20=.pointer (some ⟨tb,0,none⟩)∧∃ (lk:Int) (lb lc:Nat),BxSt bc (m+34+8 * j+4) (25+6 * j) w b13 tb wx v ns lk lb lc∧2≤lk∧lk≤14∧Hid (Nrr W o lk))
     case first =>
      by_cases hlt:W<o
      ·have hn4:=nums4 wb 10 6 3 11
       have hal:=alloc_below wb (.cells #[.int .i64 10,.int .i64 6,.int .i64 3,.int .i64 11] 3)
       have hsb:=hst5'.keep hal hbz
       have hbw:=cell_lt hst5'.1.t0
       go_wp2_with (first
        | (go_at_call 80;refine (among_any bc _ _ [10,6,3,11] _ hsb.1.cur (by omega) hn4 (by simp) (by simp) (fun q hq=>by simp [Value.ownBlock] at hq;have:=hst5'.1.lt;omega)).mono ?_;rintro e w6 ⟨y,hy,rfl,hc6,hx6⟩;have hst6:=hsb.cur' hx6 hbz hc6)
        | (go_at_call 100;refine (tmOne_any _ _ _).mono ?_;rintro e w7 ⟨v7,rfl,ho7,hb7⟩;obtain ⟨lb',lc',rfl,lb0',lb1',lcc',m0,m1,m2⟩:=nd1 ho7;have hst7:=hst6.keep hb7 hbz;have z0:=hst7.2.2.1;have zf:=hst7.2.2.2.1;have zl:=cell_lt z0))
       have hNy:Nrr W o y:=by
        refine ⟨fun _=>?_,fun h=>by omega⟩
        simp at hy
        rcases hy with rfl|rfl|rfl|rfl <;> simp [kindW]
       have hy2:2≤y∧y≤14:=by simp at hy;omega
       have hlb:lb' ≠ tb:=by have:=cell_lt hst6.2.2.1;omega
       go_meet
       case rel=>exact ⟨rfl,y,lb',lc',bx_set hst7 hbz ho7 (cell_lt hst6.1.t0) hlb hv,hy2.1,hy2.2,Lib.hid hNy⟩
      ·have hst9:BxSt bc (m+34+8 * j+4) (25+6 * j) w b13 tb wb v ns x lb lc:=⟨hst5'.1.mono (by omega) (by omega),hst5'.2⟩
       have hN9:=Lib.hid (hx14.resolve_right hlt)
       go_wp2_with fail
       go_meet
       case rel=>exact ⟨rfl,x,lb,lc,hst9,hx2.1,hx2.2,hN9⟩
     case rest =>
      obtain ⟨rfl,lk,lb,lc,hbx,l2,l14,hN⟩:=hcut
      clear hst5' hx14 hx2 lcc
      have z0:=hbx.2.2.1
      have zl:=cell_lt z0
      obtain ⟨n0,n1,n2,lcc,ll⟩:=bx_cells hbx
      go_upto_if 104 with (go_at_call 134;refine (tmArity_leaf lk 0 _ l2).mono ?_;rintro e w6 ⟨A,B,rfl,A0,A2,B0,B2,HAB,hb6⟩)
      have hbx6:=hbx.keep hb6 hbz
      clear n0 n1 n2 z0 zl
      have hab:=HAB.out
      have hAB:(W<o∧B=A+1)∨(o<W∧B+1=A):=by
       rcases Int.lt_or_lt_of_ne gwo with h|h
       ·left
        refine ⟨h,?_⟩
        rcases hN.out.1 h with e|e <;> rw [e] at hab <;> simp at hab <;> omega
       ·right
        refine ⟨h,?_⟩
        rcases hN.out.2 h with e|e <;> rw [e] at hab <;> simp at hab <;> omega
      clear hab
      have HH:=Lib.hid hAB
      clear hAB
      go_cut [20,21,22] (fun s20 s21 s22 wx=>s20=.pointer (some ⟨tb,0,none⟩)∧∃ (lk:Int) (lb lc:Nat) (A B:Int),s21=.int .i64 A∧s22=.int .i64 B∧BxSt bc (m+34+8 * j+4) (25+6 * j) w b13 tb wx v ns lk lb lc∧2≤lk∧lk≤14∧0≤A∧A≤W∧A≤2∧0≤B∧B≤2∧Hid ((W<o∧B=A+1)∨(o<W∧B+1=A)))
      case first =>
       by_cases hAW:W<A
       ·by_cases hlt:W<o
        ·go_wp2_with (first
          | (go_at_call 100;refine (tmOne_any 4 0 _).mono ?_;rintro e w7 ⟨v7,rfl,ho7,hb7⟩;obtain ⟨lb7,lc7,rfl,la7,le7,lf7,m70,m71,m72⟩:=nd1 ho7;have st7:=BxSt.keep hbx6 hb7 hbz;have z7:=st7.2.2.1;have zf7:=st7.2.2.2.1;have zl7:=cell_lt z7;have hne7:¬ lb7=tb:=(by have:=cell_lt (BxSt.keep hbx6 (Below.refl _ _) hbz).2.2.1;omega);have bx7:=bx_set st7 hbz ho7 (cell_lt (BxSt.keep hbx6 (Below.refl _ _) hbz).1.t0) hne7 hv)
          | (go_at_call 100;refine (tmOne_any 6 0 _).mono ?_;rintro e w8 ⟨v8,rfl,ho8,hb8⟩;obtain ⟨lb8,lc8,rfl,la8,le8,lf8,m80,m81,m82⟩:=nd1 ho8;have st8:=BxSt.keep bx7 hb8 hbz;have z8:=st8.2.2.1;have zf8:=st8.2.2.2.1;have zl8:=cell_lt z8;have hne8:¬ lb8=tb:=(by have:=cell_lt (BxSt.keep bx7 (Below.refl _ _) hbz).2.2.1;omega);have bx8:=bx_set st8 hbz ho8 (cell_lt (BxSt.keep bx7 (Below.refl _ _) hbz).1.t0) hne8 hv)
          | (go_at_call 134;refine (tmArity_leaf 6 0 _ (by omega)).mono ?_;rintro e w9 ⟨A',B',rfl,A0',A2',B0',B2',HAB',hb9⟩))
         go_meet
         case rel =>
          have e:=HAB'.out
          simp [kindW] at e
          exact ⟨rfl,6,lb8,lc8,A',B',rfl,rfl,bx8.keep hb9 hbz,by omega,by omega,by omega,by omega,by omega,by omega,by omega,Lib.hid (.inl ⟨hlt,by omega⟩)⟩
        ·go_wp2_with (first
          | (go_at_call 100;refine (tmOne_any 4 0 _).mono ?_;rintro e w7 ⟨v7,rfl,ho7,hb7⟩;obtain ⟨lb7,lc7,rfl,la7,le7,lf7,m70,m71,m72⟩:=nd1 ho7;have st7:=BxSt.keep hbx6 hb7 hbz;have z7:=st7.2.2.1;have zf7:=st7.2.2.2.1;have zl7:=cell_lt z7;have hne7:¬ lb7=tb:=(by have:=cell_lt (BxSt.keep hbx6 (Below.refl _ _) hbz).2.2.1;omega);have bx7:=bx_set st7 hbz ho7 (cell_lt (BxSt.keep hbx6 (Below.refl _ _) hbz).1.t0) hne7 hv)
          | (go_at_call 134;refine (tmArity_leaf 4 0 _ (by omega)).mono ?_;rintro e w9 ⟨A',B',rfl,A0',A2',B0',B2',HAB',hb9⟩))
         go_meet
         case rel =>
          have e:=HAB'.out
          simp [kindW] at e
          exact ⟨rfl,4,lb7,lc7,A',B',rfl,rfl,bx7.keep hb9 hbz,by omega,by omega,by omega,by omega,by omega,by omega,by omega,Lib.hid (.inr ⟨by omega,by omega⟩)⟩
       ·go_wp2_with fail
        go_meet
        case rel=>exact ⟨rfl,lk,lb,lc,A,B,rfl,rfl,hbx6,l2,l14,A0,by omega,A2,B0,B2,HH⟩
      case rest =>
       obtain ⟨rfl,lk,lb,lc,A,B,rfl,rfl,hbx7,l2,l14,A0,AW,A2,B0,B2,HH⟩:=hcut
       clear hbx hbx6
       go_wp2_with (go_at_call 38;refine (pick_any bc _ (W - A+1) _ hbx7.1.cur (by omega) (by omega)).mono ?_;rintro e w6 ⟨at_,rfl,t0,t1,t2,hc6,hx6⟩;have hbx6:=hbx7.cur' hx6 hbz hc6)
       have hat:0≤at_∧at_≤W - A:=by omega
       obtain ⟨hst6,htb13,q0,qf6,Bb,lown6,hBb,hlbt⟩:=hbx6
       have hz6:=cell_lt q0
       obtain ⟨av,cv,rfl⟩:=hst6.own.slice
       have hs6:=hst6.ex.size
       have hltw:=hst6.lt
       have htbc:¬ tb=bc:=by omega
       have hbbc:¬ b13=bc:=by omega
       have y0:=hst6.t0
       have yz:=cell_lt y0
       have hB6:Bb≤w6.heap.size:=by have:=World.ownsRow.lt lown6 lb rfl;omega
       clear hx6 hc6 hbx7
       obtain ⟨dd,dl,dc⟩:=hst6.dn
       refine region_acts2 (C:=Exc (fun k=>k=bc) _) 12 [0,1,2,3,4,5,6,7,8,9,10] [11] (by kernel_rfl) (by kernel_rfl) (Exc.grows _ _) (Exc.refl _ _) ?_
       iterate 9 (apply x_sT rfl rfl rfl;(focus intro u hc' hf';(try simp only [World.size_drew] at hc' hf');go_simp <;> rfl);intro K hK;go_simp;apply hK;clear hK K)
       have B67:∀ w7,Below w6.drew.heap.size w6.drew w7 → Below w6.heap.size w6 w7:=fun w7 hb=>((Below.refl _ _).drew).trans (hb.mono (by simp))
       refine x_call rfl rfl rfl (Exc.grows _ _) (Exc.refl _ _) 77 (fun K hK=>?_);apply Exists.intro;refine ⟨fun w' hw'=>?_,fun w7 hw7 hbw7=>?_⟩;(focus go_simp;rfl);refine (tmLayer_any _ _ _ _ _ (NdsOwn.keep (B67 _ hbw7) lown6).at (by simp)).mono ?_;rintro e w8 ⟨v8,rfl,hn8,ho8,hb8⟩;refine ⟨_,rfl,hb8,fun hx=>?_⟩;go_simp;apply hK;clear hK K
       have own8:=lay_own (NdsOwn.keep (B67 _ hbw7) lown6) hb8 (by have:=(B67 _ hbw7).size;omega) hn8 ho8
       have st8:=(hst6.keep (B67 _ hbw7) hbz).keep hb8 hbz
       have hs8:=hb8.size
       have hs8w:b13<Bb∧w.heap.size<Bb:=by omega
       have hs7:=(B67 _ hbw7).size
       have dn8:Dn 5 (layL at_ [⟨lk,0,ByteArray.empty⟩] (W - A - at_)):=Dn.lay _ _ (by omega) (by omega) (Dn.leaf (.inr ⟨by simp;omega,l14,by simp,by simp⟩))
       obtain ⟨ys,hys⟩:∃ ys,ys=layL at_ [⟨lk,0,ByteArray.empty⟩] (W - A - at_):=⟨_,rfl⟩
       have e1:IntKind.i64.wrap (W - A)=W - A:=IntWalk.i64_in _ (by omega)
       have e2:IntKind.i64.wrap (W - A - at_)=W - A - at_:=IntWalk.i64_in _ (by omega)
       rw [e1,e2,← hys] at own8 hn8 ho8
       rw [← hys] at dn8
       have dl8:ys.length≤5:=by obtain ⟨_,_,_,h,_⟩:=dn8;exact h
       obtain ⟨a8,c8,rfl⟩:=own8.slice
       clear hys hn8 ho8 e1 e2
       refine x_callT rfl rfl rfl (hx) 135 (fun k hk=>by have:k=bc:=hk;simp;omega) (fun K hK=>?_);apply Exists.intro;refine ⟨fun w' hw'=>?_,fun w9 hw9 hbw9=>?_⟩;(focus go_simp;rfl);refine (then_any bc _ _ _ ns ys _ (st8.keep hbw9 hbz).cur (by omega) (NdsOwn.tm (st8.keep hbw9 hbz).own (by omega)) (NdsOwn.tm (NdsOwn.keep hbw9 own8) (by omega)) (by omega) (by omega)).mono ?_;rintro e w10 ⟨v10,zs,rfl,hor,htm,hc10,hx10⟩;refine ⟨_,rfl,hx10,fun hx=>?_⟩;go_simp;apply hK;clear hK K
       obtain ⟨st10,own10,ne10,dn10⟩:=ly_next hbz (st8.keep hbw9 hbz) (NdsOwn.keep hbw9 own8) dn8 hs8w hor hc10 hx10
       obtain ⟨a10,c10,rfl⟩:=own10.slice
       refine x_nil ?_
       refine ⟨Exc (fun j=>j=b13) w10,w10.heap.size,Exc.grows _ _,Exc.refl _ _,?_⟩
       refine x_do rfl rfl rfl (Exc.grows _ _) (Exc.refl _ _) (fun K hK=>?_)
       intro w11 hw11 hb11
       have st11:=st10.keep hb11 hbz
       have g0:=st11.t0
       have gf:=st11.tf
       have gz:=cell_lt st10.t0
       refine ⟨w11.setCell ⟨b13,0,none⟩ (.slice a10 zs.length c10),?_,⟨exc_set hw11 (.inr rfl) _,by simp,fun q hq _ _=>Below.heap_setCell _ _ _ _ (fun hh=>by have:q=b13:=hh;omega)⟩,?_⟩
       ·go_simp
       go_simp
       refine hK _ _ _ ?_
       clear hK K
       refine x_nil ?_
       have st12:=st11.set hbz (NdsOwn.keep hb11 own10) ne10 dn10
       go_wp2
       have hh:=HH.out
       exact ⟨⟨W+(B - A),j+1,_,zs,rfl,by omega,by omega,by omega,st12.mono (by omega) (by omega)⟩,by simp [intOf];omega⟩
end Go.Proofs.YtikgblkfmpecfaaGreatDoor
