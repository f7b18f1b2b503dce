/-
  The reference's joRead, way by way. By a program of my own (parPs.py).
-/
import Derived.Test.YtikgblkfmpecfaaGreatDoorWPeJ
import Derived.Test.YtikgblkfmpecfaaGreatDoorWLW
import Derived.Test.YtikgblkfmpecfaaGreatDoorWGG
import Derived.Test.YtikgblkfmpecfaaGreatDoorWX
set_option linter.all false
set_option maxRecDepth 100000
set_option maxHeartbeats 8000000
namespace Go.Proofs.YtikgblkfmpecfaaGreatDoor
open Go.RowKit
theorem afO (v:Value) (L:List Df) (s:ByteArray) (P:List (List UInt8)) (w:World) (hv:aG w v L) (hg:good L=true) (hs:s.size<=1048576)
  (hsp:∀w,Calls Tryz.prog 178 #[.string s,.int .u8 32] w λe w'=>∃v,e=.returned v/\ru w' w.heap.size v P/\Below w.heap.size w w')
  (hlet:¬(4:Int)<s.size\/((4:Int)<s.size/\((s.extract 0 4).toList==[108,101,116,32])=false)) (b:List UInt8) (X:ByteArray) (o:Option En) (hP:P=[rC,b]) (hX:bytesOf b=X) (hee:dW ⟨2,X,⟨#[]⟩,[]⟩) (ho:jh L s (some ⟨2,X,⟨#[]⟩,[]⟩)=o) :
  Calls Tryz.prog 129 #[v,.string s] w (ny o w):=by
 subst hP;rcases hlet with g|⟨g,g2⟩
 all_goals
  obtain⟨a,cap,rfl⟩:∃a cap,v=.slice a L.length cap:=by obtain⟨a,cap,rfl,_⟩:=hv;exact⟨a,cap,rfl⟩
  obtain⟨hLo,hLn⟩:=mJ hg
  have rG:=Lib.hid hsp
  clear hsp
  go_enter Tryz.func129,Tryz.ntmps129
  go_wp2_with fail
  refine(rG.out _).mono ?_
  rintro e1 w1⟨v1,rfl,ho1,hb1⟩
  obtain⟨a1,c1,rfl,hc1,hat⟩:=ho1.at
  have hB1:Below (w.heap.size+1) (w.alloc (.cells #[.int .i64 0,.string ⟨#[]⟩,.string ⟨#[]⟩,.slice none 0 0] 45)) w1:=((aj (w.alloc (.cells #[.int .i64 0,.string ⟨#[]⟩,.string ⟨#[]⟩,.slice none 0 0] 45)) (.cells #[.int .i64 0,.string ⟨#[]⟩,.string ⟨#[]⟩,.slice none 0 0] 45)).mono (by simp)).trans (hb1.mono (by simp))
  have hX1:Below ((w.alloc (.cells #[.int .i64 0,.string ⟨#[]⟩,.string ⟨#[]⟩,.slice none 0 0] 45)).heap.size+1) ((w.alloc (.cells #[.int .i64 0,.string ⟨#[]⟩,.string ⟨#[]⟩,.slice none 0 0] 45)).alloc (.cells #[.int .i64 0,.string ⟨#[]⟩,.string ⟨#[]⟩,.slice none 0 0] 45)) w1:=hb1.mono (by simp)
  obtain⟨r0,r1,r2,r3,rf,hz1,aF⟩:=aY hB1
  obtain⟨x0,x1,x2,x3,xf,hxz,_⟩:=aY hX1
  simp only[World.size_alloc]at x0 x1 x2 x3 xf hxz
  obtain⟨be,hbe⟩:∃be,be=w.heap.size+1:=⟨_,rfl⟩
  rw[<-hbe]at x0 x1 x2 x3 xf hxz ⊢
  have hlt:w.heap.size<be:=by omega
  have hle:w.heap.size+1<=be:=by omega
  have hn1:¬w.heap.size=be:=by omega
  have hn2:¬be=w.heap.size:=by omega
  have hv1:=hv.keep aF
  clear hbe hX1 ho1 hb1
  obtain⟨b1,o1,e1,_,h0⟩:=hat 0 (by simp)
  obtain⟨b2,o2,e2,_,h1⟩:=hat 1 (by simp)
  rw[e1]at e2
  simp only[Option.some.injEq,Addr.mk.injEq,and_true]at e2
  obtain⟨rfl,rfl⟩:=e2
  subst e1
  simp only[List.length_cons,List.length_nil,Nat.zero_add,Nat.reduceAdd]at hc1 ⊢
  simp only[List.getElem_cons_zero,List.getElem_cons_succ,Nat.zero_mul,Nat.add_zero,Nat.one_mul,Nat.mul_one]at h0
  simp only[List.getElem_cons_zero,List.getElem_cons_succ,Nat.zero_mul,Nat.add_zero,Nat.one_mul,Nat.mul_one]at h1
  clear hat
  rw[show bytesOf rC=(⟨#[100,114,111,112]⟩:ByteArray)from rfl]at h0
  rw[hX]at h1
  clear hX
  go_wp2_with fail
  have y0:World.cell? ((((w1.setCell ⟨be,0,none⟩ (.int .i64 2)).setCell ⟨be,1,none⟩ (.string X)).setCell ⟨be,2,none⟩ (.string ⟨#[]⟩)).setCell ⟨be,3,none⟩ (.slice none 0 0)) ⟨be,0,none⟩=some (.int .i64 2):=by go_simp
  have y1:World.cell? ((((w1.setCell ⟨be,0,none⟩ (.int .i64 2)).setCell ⟨be,1,none⟩ (.string X)).setCell ⟨be,2,none⟩ (.string ⟨#[]⟩)).setCell ⟨be,3,none⟩ (.slice none 0 0)) ⟨be,1,none⟩=some (.string X):=by go_simp
  have y2:World.cell? ((((w1.setCell ⟨be,0,none⟩ (.int .i64 2)).setCell ⟨be,1,none⟩ (.string X)).setCell ⟨be,2,none⟩ (.string ⟨#[]⟩)).setCell ⟨be,3,none⟩ (.slice none 0 0)) ⟨be,2,none⟩=some (.string ⟨#[]⟩):=by go_simp
  have y3:World.cell? ((((w1.setCell ⟨be,0,none⟩ (.int .i64 2)).setCell ⟨be,1,none⟩ (.string X)).setCell ⟨be,2,none⟩ (.string ⟨#[]⟩)).setCell ⟨be,3,none⟩ (.slice none 0 0)) ⟨be,3,none⟩=some (.slice none 0 0):=by go_simp
  have hBW:Below (w.heap.size+1) (w.alloc (.cells #[.int .i64 0,.string ⟨#[]⟩,.string ⟨#[]⟩,.slice none 0 0] 45)) ((((w1.setCell ⟨be,0,none⟩ (.int .i64 2)).setCell ⟨be,1,none⟩ (.string X)).setCell ⟨be,2,none⟩ (.string ⟨#[]⟩)).setCell ⟨be,3,none⟩ (.slice none 0 0)):=(((hB1.setCell hle _).setCell hle _).setCell hle _).setCell hle _
  have nC:au ((((w1.setCell ⟨be,0,none⟩ (.int .i64 2)).setCell ⟨be,1,none⟩ (.string X)).setCell ⟨be,2,none⟩ (.string ⟨#[]⟩)).setCell ⟨be,3,none⟩ (.slice none 0 0)) w1.heap.size (.slice none 0 0) []:=jY _ _
  generalize(((w1.setCell ⟨be,0,none⟩ (.int .i64 2)).setCell ⟨be,1,none⟩ (.string X)).setCell ⟨be,2,none⟩ (.string ⟨#[]⟩)).setCell ⟨be,3,none⟩ (.slice none 0 0)=W at y0 y1 y2 y3 hBW nC ⊢
  have nD:=nC.at
  have hl2:w.heap.size<w1.heap.size:=hz1
  clear x0 x1 x2 x3 xf r0 r1 r2 r3 rf hz1 aF hv1 hB1
  obtain⟨q0,q1,q2,q3,qf,hz1,aF⟩:=aY hBW
  have hyz:be<W.heap.size:=cell_lt y0
  have aU:=hv.keep aF
  cases hap:aJ L (⟨2,X,⟨#[]⟩,[]⟩:En)with
  | none =>
   have HO:Hid (o=none):=(show _=_ by rw[<-ho];exact Gz hap)
   have HA:=Lib.hid hap
   clear hap ho
   refine(oQ _ _ L (⟨2,X,⟨#[]⟩,[]⟩:En) _ aU hLn hLo nD hee).mono ?_
   rintro e5 w5⟨v5,rfl,dZ,hb5⟩
   rw[HA.out]
   simp only[Option.isSome_none]
   have gX:=hBW.trans (hb5.mono (by omega))
   clear q0 q1 q2 q3 qf hz1 aF
   obtain⟨r0,r1,r2,r3,rf,hz1,aF⟩:=aY gX
   go_wp2
   refine bodyPost_ret (v:=.tuple #[.agg #[.int .i64 0,.string ⟨#[]⟩,.string ⟨#[]⟩,.slice none 0 0],.bool false]) (by simp[results,Tryz.results129,go_sem,r0,r1,r2,r3,rf,hz1]) rfl ?_
   rw[HO.out]
   refine kK ?_
   (repeat(first|(with_reducible refine Below.alloc ?_ ?_ _;rotate_left;(first|omega|(simp;done)|(simp;omega)))|(with_reducible refine Below.setCell ?_ ?_ _;rotate_left;(first|exact Nat.le_refl _|(simp;done)|(simp;omega)))|(with_reducible refine Below.drew ?_)));exact aF
  | some R =>
   have HA:=Lib.hid hap
   have HK:Hid (o=if aH (⟨2,X,⟨#[]⟩,[]⟩:En)=s then some (⟨2,X,⟨#[]⟩,[]⟩:En)else none):=(show _=_ by rw[<-ho];simp[jh,hap])
   clear ho
   refine(oQ _ _ L (⟨2,X,⟨#[]⟩,[]⟩:En) _ aU hLn hLo nD hee).mono ?_
   rintro e5 w5⟨v5,rfl,dZ,hb5⟩
   rw[HA.out]
   simp only[Option.isSome_some]
   have gX:=hBW.trans (hb5.mono (by omega))
   have z0:=ak hb5 y0
   have z1:=ak hb5 y1
   have z2:=ak hb5 y2
   have z3:=ak hb5 y3
   have zO:=nC.keep hb5
   have vW:be<w5.heap.size:=cell_lt z0
   clear dZ hap y0 y1 y2 y3 q0 q1 q2 q3 qf hz1 aF
   go_wp2_with fail
   refine(DL DN _ L R (⟨2,X,⟨#[]⟩,[]⟩:En) _ zO.at hee HA.out).mono ?_
   rintro e6 w6⟨rfl,hb6⟩
   have dH:=gX.trans (hb6.mono (by have:=gX.size;simp at this;omega))
   have y0:=ak hb6 z0
   have y1:=ak hb6 z1
   have y2:=ak hb6 z2
   have y3:=ak hb6 z3
   have dK:=zO.keep hb6
   obtain⟨r0,r1,r2,r3,rf,hz1,aF⟩:=aY dH
   have uy:be<w6.heap.size:=cell_lt y0
   clear z0 z1 z2 z3
   obtain⟨tx,htx⟩:∃tx,aH (⟨2,X,⟨#[]⟩,[]⟩:En)=tx:=⟨_,rfl⟩
   rw[htx]at HK ⊢
   by_cases hts:tx=s
   ·subst hts
    have HO:Hid (o=some (⟨2,X,⟨#[]⟩,[]⟩:En)):=(show _=_ by rw[HK.out,if_pos rfl])
    clear HK
    go_wp2
    refine bodyPost_ret (v:=.tuple #[.agg #[.int .i64 2,.string X,.string ⟨#[]⟩,.slice none 0 0],.bool true]) (by simp[results,Tryz.results129,go_sem,r0,r1,r2,r3,rf,hz1]) rfl ?_
    rw[HO.out]
    refine⟨_,rfl,?_,?_⟩
    ·exact au.mono (B:=w1.heap.size) (by omega) ((((dK.bY (a:=⟨w.heap.size,0,none⟩) hl2 _).bY (a:=⟨w.heap.size,1,none⟩) hl2 _).bY (a:=⟨w.heap.size,2,none⟩) hl2 _).bY (a:=⟨w.heap.size,3,none⟩) hl2 _)
    ·(repeat(first|(with_reducible refine Below.alloc ?_ ?_ _;rotate_left;(first|omega|(simp;done)|(simp;omega)))|(with_reducible refine Below.setCell ?_ ?_ _;rotate_left;(first|exact Nat.le_refl _|(simp;done)|(simp;omega)))|(with_reducible refine Below.drew ?_)));exact aF
   ·have HO:Hid (o=none):=(show _=_ by rw[HK.out,if_neg hts])
    have g1:=u_ hts
    clear HK hts
    go_wp2
    refine bodyPost_ret (v:=.tuple #[.agg #[.int .i64 0,.string ⟨#[]⟩,.string ⟨#[]⟩,.slice none 0 0],.bool false]) (by simp[results,Tryz.results129,go_sem,r0,r1,r2,r3,rf,hz1]) rfl ?_
    rw[HO.out]
    refine kK ?_
    (repeat(first|(with_reducible refine Below.alloc ?_ ?_ _;rotate_left;(first|omega|(simp;done)|(simp;omega)))|(with_reducible refine Below.setCell ?_ ?_ _;rotate_left;(first|exact Nat.le_refl _|(simp;done)|(simp;omega)))|(with_reducible refine Below.drew ?_)));exact aF
theorem afP (v:Value) (L:List Df) (s:ByteArray) (P:List (List UInt8)) (w:World) (hv:aG w v L) (hg:good L=true) (hs:s.size<=1048576)
  (hsp:∀w,Calls Tryz.prog 178 #[.string s,.int .u8 32] w λe w'=>∃v,e=.returned v/\ru w' w.heap.size v P/\Below w.heap.size w w')
  (hlet:¬(4:Int)<s.size\/((4:Int)<s.size/\((s.extract 0 4).toList==[108,101,116,32])=false)) (b c:List UInt8) (X Y:ByteArray) (o:Option En) (hP:P=[rD,b,c]) (hX:bytesOf b=X) (hY:bytesOf c=Y) (hee:dW ⟨3,X,Y,[]⟩) (ho:jh L s (some ⟨3,X,Y,[]⟩)=o) :
  Calls Tryz.prog 129 #[v,.string s] w (ny o w):=by
 subst hP;rcases hlet with g|⟨g,g2⟩
 all_goals
  obtain⟨a,cap,rfl⟩:∃a cap,v=.slice a L.length cap:=by obtain⟨a,cap,rfl,_⟩:=hv;exact⟨a,cap,rfl⟩
  obtain⟨hLo,hLn⟩:=mJ hg
  have rG:=Lib.hid hsp
  clear hsp
  go_enter Tryz.func129,Tryz.ntmps129
  go_wp2_with fail
  refine(rG.out _).mono ?_
  rintro e1 w1⟨v1,rfl,ho1,hb1⟩
  obtain⟨a1,c1,rfl,hc1,hat⟩:=ho1.at
  have hB1:Below (w.heap.size+1) (w.alloc (.cells #[.int .i64 0,.string ⟨#[]⟩,.string ⟨#[]⟩,.slice none 0 0] 45)) w1:=((aj (w.alloc (.cells #[.int .i64 0,.string ⟨#[]⟩,.string ⟨#[]⟩,.slice none 0 0] 45)) (.cells #[.int .i64 0,.string ⟨#[]⟩,.string ⟨#[]⟩,.slice none 0 0] 45)).mono (by simp)).trans (hb1.mono (by simp))
  have hX1:Below ((w.alloc (.cells #[.int .i64 0,.string ⟨#[]⟩,.string ⟨#[]⟩,.slice none 0 0] 45)).heap.size+1) ((w.alloc (.cells #[.int .i64 0,.string ⟨#[]⟩,.string ⟨#[]⟩,.slice none 0 0] 45)).alloc (.cells #[.int .i64 0,.string ⟨#[]⟩,.string ⟨#[]⟩,.slice none 0 0] 45)) w1:=hb1.mono (by simp)
  obtain⟨r0,r1,r2,r3,rf,hz1,aF⟩:=aY hB1
  obtain⟨x0,x1,x2,x3,xf,hxz,_⟩:=aY hX1
  simp only[World.size_alloc]at x0 x1 x2 x3 xf hxz
  obtain⟨be,hbe⟩:∃be,be=w.heap.size+1:=⟨_,rfl⟩
  rw[<-hbe]at x0 x1 x2 x3 xf hxz ⊢
  have hlt:w.heap.size<be:=by omega
  have hle:w.heap.size+1<=be:=by omega
  have hn1:¬w.heap.size=be:=by omega
  have hn2:¬be=w.heap.size:=by omega
  have hv1:=hv.keep aF
  clear hbe hX1 ho1 hb1
  obtain⟨b1,o1,e1,_,h0⟩:=hat 0 (by simp)
  obtain⟨b2,o2,e2,_,h1⟩:=hat 1 (by simp)
  rw[e1]at e2
  simp only[Option.some.injEq,Addr.mk.injEq,and_true]at e2
  obtain⟨rfl,rfl⟩:=e2
  obtain⟨b2,o2,e2,_,h2⟩:=hat 2 (by simp)
  rw[e1]at e2
  simp only[Option.some.injEq,Addr.mk.injEq,and_true]at e2
  obtain⟨rfl,rfl⟩:=e2
  subst e1
  simp only[List.length_cons,List.length_nil,Nat.zero_add,Nat.reduceAdd]at hc1 ⊢
  simp only[List.getElem_cons_zero,List.getElem_cons_succ,Nat.zero_mul,Nat.add_zero,Nat.one_mul,Nat.mul_one]at h0
  simp only[List.getElem_cons_zero,List.getElem_cons_succ,Nat.zero_mul,Nat.add_zero,Nat.one_mul,Nat.mul_one]at h1
  simp only[List.getElem_cons_zero,List.getElem_cons_succ,Nat.zero_mul,Nat.add_zero,Nat.one_mul,Nat.mul_one]at h2
  clear hat
  rw[show bytesOf rD=(⟨#[110,97,109,101]⟩:ByteArray)from rfl]at h0
  rw[hX]at h1
  rw[hY]at h2
  clear hX hY
  go_wp2_with fail
  go_region
  go_wp2_with fail
  have y0:World.cell? (((((w1.setCell ⟨be,0,none⟩ (.int .i64 3)).setCell ⟨be,1,none⟩ (.string X)).setCell ⟨be,2,none⟩ (.string Y)).setCell ⟨be,3,none⟩ (.slice none 0 0)).drew) ⟨be,0,none⟩=some (.int .i64 3):=by go_simp
  have y1:World.cell? (((((w1.setCell ⟨be,0,none⟩ (.int .i64 3)).setCell ⟨be,1,none⟩ (.string X)).setCell ⟨be,2,none⟩ (.string Y)).setCell ⟨be,3,none⟩ (.slice none 0 0)).drew) ⟨be,1,none⟩=some (.string X):=by go_simp
  have y2:World.cell? (((((w1.setCell ⟨be,0,none⟩ (.int .i64 3)).setCell ⟨be,1,none⟩ (.string X)).setCell ⟨be,2,none⟩ (.string Y)).setCell ⟨be,3,none⟩ (.slice none 0 0)).drew) ⟨be,2,none⟩=some (.string Y):=by go_simp
  have y3:World.cell? (((((w1.setCell ⟨be,0,none⟩ (.int .i64 3)).setCell ⟨be,1,none⟩ (.string X)).setCell ⟨be,2,none⟩ (.string Y)).setCell ⟨be,3,none⟩ (.slice none 0 0)).drew) ⟨be,3,none⟩=some (.slice none 0 0):=by go_simp
  have hBW:Below (w.heap.size+1) (w.alloc (.cells #[.int .i64 0,.string ⟨#[]⟩,.string ⟨#[]⟩,.slice none 0 0] 45)) (((((w1.setCell ⟨be,0,none⟩ (.int .i64 3)).setCell ⟨be,1,none⟩ (.string X)).setCell ⟨be,2,none⟩ (.string Y)).setCell ⟨be,3,none⟩ (.slice none 0 0)).drew):=((((hB1.setCell hle _).setCell hle _).setCell hle _).setCell hle _).drew
  have nC:au (((((w1.setCell ⟨be,0,none⟩ (.int .i64 3)).setCell ⟨be,1,none⟩ (.string X)).setCell ⟨be,2,none⟩ (.string Y)).setCell ⟨be,3,none⟩ (.slice none 0 0)).drew) w1.heap.size (.slice none 0 0) []:=jY _ _
  generalize((((w1.setCell ⟨be,0,none⟩ (.int .i64 3)).setCell ⟨be,1,none⟩ (.string X)).setCell ⟨be,2,none⟩ (.string Y)).setCell ⟨be,3,none⟩ (.slice none 0 0)).drew=W at y0 y1 y2 y3 hBW nC ⊢
  have nD:=nC.at
  have hl2:w.heap.size<w1.heap.size:=hz1
  clear x0 x1 x2 x3 xf r0 r1 r2 r3 rf hz1 aF hv1 hB1
  obtain⟨q0,q1,q2,q3,qf,hz1,aF⟩:=aY hBW
  have hyz:be<W.heap.size:=cell_lt y0
  have aU:=hv.keep aF
  cases hap:aJ L (⟨3,X,Y,[]⟩:En)with
  | none =>
   have HO:Hid (o=none):=(show _=_ by rw[<-ho];exact Gz hap)
   have HA:=Lib.hid hap
   clear hap ho
   refine(oQ _ _ L (⟨3,X,Y,[]⟩:En) _ aU hLn hLo nD hee).mono ?_
   rintro e5 w5⟨v5,rfl,dZ,hb5⟩
   rw[HA.out]
   simp only[Option.isSome_none]
   have gX:=hBW.trans (hb5.mono (by omega))
   clear q0 q1 q2 q3 qf hz1 aF
   obtain⟨r0,r1,r2,r3,rf,hz1,aF⟩:=aY gX
   go_wp2
   refine bodyPost_ret (v:=.tuple #[.agg #[.int .i64 0,.string ⟨#[]⟩,.string ⟨#[]⟩,.slice none 0 0],.bool false]) (by simp[results,Tryz.results129,go_sem,r0,r1,r2,r3,rf,hz1]) rfl ?_
   rw[HO.out]
   refine kK ?_
   (repeat(first|(with_reducible refine Below.alloc ?_ ?_ _;rotate_left;(first|omega|(simp;done)|(simp;omega)))|(with_reducible refine Below.setCell ?_ ?_ _;rotate_left;(first|exact Nat.le_refl _|(simp;done)|(simp;omega)))|(with_reducible refine Below.drew ?_)));exact aF
  | some R =>
   have HA:=Lib.hid hap
   have HK:Hid (o=if aH (⟨3,X,Y,[]⟩:En)=s then some (⟨3,X,Y,[]⟩:En)else none):=(show _=_ by rw[<-ho];simp[jh,hap])
   clear ho
   refine(oQ _ _ L (⟨3,X,Y,[]⟩:En) _ aU hLn hLo nD hee).mono ?_
   rintro e5 w5⟨v5,rfl,dZ,hb5⟩
   rw[HA.out]
   simp only[Option.isSome_some]
   have gX:=hBW.trans (hb5.mono (by omega))
   have z0:=ak hb5 y0
   have z1:=ak hb5 y1
   have z2:=ak hb5 y2
   have z3:=ak hb5 y3
   have zO:=nC.keep hb5
   have vW:be<w5.heap.size:=cell_lt z0
   clear dZ hap y0 y1 y2 y3 q0 q1 q2 q3 qf hz1 aF
   go_wp2_with fail
   refine(DL DN _ L R (⟨3,X,Y,[]⟩:En) _ zO.at hee HA.out).mono ?_
   rintro e6 w6⟨rfl,hb6⟩
   have dH:=gX.trans (hb6.mono (by have:=gX.size;simp at this;omega))
   have y0:=ak hb6 z0
   have y1:=ak hb6 z1
   have y2:=ak hb6 z2
   have y3:=ak hb6 z3
   have dK:=zO.keep hb6
   obtain⟨r0,r1,r2,r3,rf,hz1,aF⟩:=aY dH
   have uy:be<w6.heap.size:=cell_lt y0
   clear z0 z1 z2 z3
   obtain⟨tx,htx⟩:∃tx,aH (⟨3,X,Y,[]⟩:En)=tx:=⟨_,rfl⟩
   rw[htx]at HK ⊢
   by_cases hts:tx=s
   ·subst hts
    have HO:Hid (o=some (⟨3,X,Y,[]⟩:En)):=(show _=_ by rw[HK.out,if_pos rfl])
    clear HK
    go_wp2
    refine bodyPost_ret (v:=.tuple #[.agg #[.int .i64 3,.string X,.string Y,.slice none 0 0],.bool true]) (by simp[results,Tryz.results129,go_sem,r0,r1,r2,r3,rf,hz1]) rfl ?_
    rw[HO.out]
    refine⟨_,rfl,?_,?_⟩
    ·exact au.mono (B:=w1.heap.size) (by omega) ((((dK.bY (a:=⟨w.heap.size,0,none⟩) hl2 _).bY (a:=⟨w.heap.size,1,none⟩) hl2 _).bY (a:=⟨w.heap.size,2,none⟩) hl2 _).bY (a:=⟨w.heap.size,3,none⟩) hl2 _)
    ·(repeat(first|(with_reducible refine Below.alloc ?_ ?_ _;rotate_left;(first|omega|(simp;done)|(simp;omega)))|(with_reducible refine Below.setCell ?_ ?_ _;rotate_left;(first|exact Nat.le_refl _|(simp;done)|(simp;omega)))|(with_reducible refine Below.drew ?_)));exact aF
   ·have HO:Hid (o=none):=(show _=_ by rw[HK.out,if_neg hts])
    have g1:=u_ hts
    clear HK hts
    go_wp2
    refine bodyPost_ret (v:=.tuple #[.agg #[.int .i64 0,.string ⟨#[]⟩,.string ⟨#[]⟩,.slice none 0 0],.bool false]) (by simp[results,Tryz.results129,go_sem,r0,r1,r2,r3,rf,hz1]) rfl ?_
    rw[HO.out]
    refine kK ?_
    (repeat(first|(with_reducible refine Below.alloc ?_ ?_ _;rotate_left;(first|omega|(simp;done)|(simp;omega)))|(with_reducible refine Below.setCell ?_ ?_ _;rotate_left;(first|exact Nat.le_refl _|(simp;done)|(simp;omega)))|(with_reducible refine Below.drew ?_)));exact aF
theorem SL (L:List Df):aJ L ⟨0,⟨#[]⟩,⟨#[]⟩,[]⟩=none:=by
 unfold aJ;split<;>rfl
theorem ZO (v:Value) (L:List Df) (s:ByteArray) (P:List (List UInt8)) (w:World) (hv:aG w v L) (hg:good L=true) (hs:s.size<=1048576)
  (hsp:∀w,Calls Tryz.prog 178 #[.string s,.int .u8 32] w λe w'=>∃v,e=.returned v/\ru w' w.heap.size v P/\Below w.heap.size w w')
  (hlet:¬(4:Int)<s.size\/((4:Int)<s.size/\((s.extract 0 4).toList==[108,101,116,32])=false)) (o:Option En) (ho:o=none) (g22:¬(P.length:Int)=2) (g33:¬(P.length:Int)=3) :
  Calls Tryz.prog 129 #[v,.string s] w (ny o w):=by
 rcases hlet with g|⟨g,g2⟩
 all_goals
  obtain⟨a,cap,rfl⟩:∃a cap,v=.slice a L.length cap:=by obtain⟨a,cap,rfl,_⟩:=hv;exact⟨a,cap,rfl⟩
  obtain⟨hLo,hLn⟩:=mJ hg
  have rG:=Lib.hid hsp
  clear hsp
  go_enter Tryz.func129,Tryz.ntmps129
  go_wp2_with fail
  refine(rG.out _).mono ?_
  rintro e1 w1⟨v1,rfl,ho1,hb1⟩
  obtain⟨a1,c1,rfl,hc1,hat⟩:=ho1.at
  have hB1:Below (w.heap.size+1) (w.alloc (.cells #[.int .i64 0,.string ⟨#[]⟩,.string ⟨#[]⟩,.slice none 0 0] 45)) w1:=((aj (w.alloc (.cells #[.int .i64 0,.string ⟨#[]⟩,.string ⟨#[]⟩,.slice none 0 0] 45)) (.cells #[.int .i64 0,.string ⟨#[]⟩,.string ⟨#[]⟩,.slice none 0 0] 45)).mono (by simp)).trans (hb1.mono (by simp))
  have hX1:Below ((w.alloc (.cells #[.int .i64 0,.string ⟨#[]⟩,.string ⟨#[]⟩,.slice none 0 0] 45)).heap.size+1) ((w.alloc (.cells #[.int .i64 0,.string ⟨#[]⟩,.string ⟨#[]⟩,.slice none 0 0] 45)).alloc (.cells #[.int .i64 0,.string ⟨#[]⟩,.string ⟨#[]⟩,.slice none 0 0] 45)) w1:=hb1.mono (by simp)
  obtain⟨r0,r1,r2,r3,rf,hz1,aF⟩:=aY hB1
  obtain⟨x0,x1,x2,x3,xf,hxz,_⟩:=aY hX1
  simp only[World.size_alloc]at x0 x1 x2 x3 xf hxz
  obtain⟨be,hbe⟩:∃be,be=w.heap.size+1:=⟨_,rfl⟩
  rw[<-hbe]at x0 x1 x2 x3 xf hxz ⊢
  have hlt:w.heap.size<be:=by omega
  have hle:w.heap.size+1<=be:=by omega
  have hn1:¬w.heap.size=be:=by omega
  have hn2:¬be=w.heap.size:=by omega
  have hv1:=hv.keep aF
  clear hbe hX1 ho1 hb1
  clear hat
  go_wp2_with fail
  have y0:World.cell? (w1) ⟨be,0,none⟩=some (.int .i64 0):=by go_simp
  have y1:World.cell? (w1) ⟨be,1,none⟩=some (.string ⟨#[]⟩):=by go_simp
  have y2:World.cell? (w1) ⟨be,2,none⟩=some (.string ⟨#[]⟩):=by go_simp
  have y3:World.cell? (w1) ⟨be,3,none⟩=some (.slice none 0 0):=by go_simp
  have hBW:Below (w.heap.size+1) (w.alloc (.cells #[.int .i64 0,.string ⟨#[]⟩,.string ⟨#[]⟩,.slice none 0 0] 45)) (w1):=hB1
  have nC:au (w1) w1.heap.size (.slice none 0 0) []:=jY _ _
  have nD:=nC.at
  have hl2:w.heap.size<w1.heap.size:=hz1
  clear x0 x1 x2 x3 xf r0 r1 r2 r3 rf hz1 aF hv1 hB1
  obtain⟨q0,q1,q2,q3,qf,hz1,aF⟩:=aY hBW
  have aU:=hv.keep aF
  have HA:=Lib.hid (show aJ L ⟨0,⟨#[]⟩,⟨#[]⟩,[]⟩=none from SL L)
  have HO:Hid (o=none):=ho
  refine(oQ _ _ L ⟨0,⟨#[]⟩,⟨#[]⟩,[]⟩ _ aU hLn hLo nD (x9 (by decide) (by decide))).mono ?_
  rintro e5 w5⟨v5,rfl,dZ,hb5⟩
  rw[HA.out]
  simp only[Option.isSome_none]
  have gX:=hBW.trans (hb5.mono (by omega))
  clear q0 q1 q2 q3 qf hz1 aF y0 y1 y2 y3
  obtain⟨r0,r1,r2,r3,rf,hz1,aF⟩:=aY gX
  go_wp2
  refine bodyPost_ret (v:=.tuple #[.agg #[.int .i64 0,.string ⟨#[]⟩,.string ⟨#[]⟩,.slice none 0 0],.bool false]) (by simp[results,Tryz.results129,go_sem,r0,r1,r2,r3,rf,hz1]) rfl ?_
  rw[HO.out]
  refine kK ?_
  (repeat(first|(with_reducible refine Below.alloc ?_ ?_ _;rotate_left;(first|omega|(simp;done)|(simp;omega)))|(with_reducible refine Below.setCell ?_ ?_ _;rotate_left;(first|exact Nat.le_refl _|(simp;done)|(simp;omega)))|(with_reducible refine Below.drew ?_)));exact aF
theorem afQ (v:Value) (L:List Df) (s:ByteArray) (P:List (List UInt8)) (w:World) (hv:aG w v L) (hg:good L=true) (hs:s.size<=1048576)
  (hsp:∀w,Calls Tryz.prog 178 #[.string s,.int .u8 32] w λe w'=>∃v,e=.returned v/\ru w' w.heap.size v P/\Below w.heap.size w w')
  (hlet:¬(4:Int)<s.size\/((4:Int)<s.size/\((s.extract 0 4).toList==[108,101,116,32])=false)) (o:Option En) (ho:o=none) (a0 b0:List UInt8) (q0:ByteArray) (hP:P=[a0,b0]) (hq:bytesOf a0=q0) (g3:(q0.toList==[100,114,111,112])=false) :
  Calls Tryz.prog 129 #[v,.string s] w (ny o w):=by
 subst hP;rcases hlet with g|⟨g,g2⟩
 all_goals
  obtain⟨a,cap,rfl⟩:∃a cap,v=.slice a L.length cap:=by obtain⟨a,cap,rfl,_⟩:=hv;exact⟨a,cap,rfl⟩
  obtain⟨hLo,hLn⟩:=mJ hg
  have rG:=Lib.hid hsp
  clear hsp
  go_enter Tryz.func129,Tryz.ntmps129
  go_wp2_with fail
  refine(rG.out _).mono ?_
  rintro e1 w1⟨v1,rfl,ho1,hb1⟩
  obtain⟨a1,c1,rfl,hc1,hat⟩:=ho1.at
  have hB1:Below (w.heap.size+1) (w.alloc (.cells #[.int .i64 0,.string ⟨#[]⟩,.string ⟨#[]⟩,.slice none 0 0] 45)) w1:=((aj (w.alloc (.cells #[.int .i64 0,.string ⟨#[]⟩,.string ⟨#[]⟩,.slice none 0 0] 45)) (.cells #[.int .i64 0,.string ⟨#[]⟩,.string ⟨#[]⟩,.slice none 0 0] 45)).mono (by simp)).trans (hb1.mono (by simp))
  have hX1:Below ((w.alloc (.cells #[.int .i64 0,.string ⟨#[]⟩,.string ⟨#[]⟩,.slice none 0 0] 45)).heap.size+1) ((w.alloc (.cells #[.int .i64 0,.string ⟨#[]⟩,.string ⟨#[]⟩,.slice none 0 0] 45)).alloc (.cells #[.int .i64 0,.string ⟨#[]⟩,.string ⟨#[]⟩,.slice none 0 0] 45)) w1:=hb1.mono (by simp)
  obtain⟨r0,r1,r2,r3,rf,hz1,aF⟩:=aY hB1
  obtain⟨x0,x1,x2,x3,xf,hxz,_⟩:=aY hX1
  simp only[World.size_alloc]at x0 x1 x2 x3 xf hxz
  obtain⟨be,hbe⟩:∃be,be=w.heap.size+1:=⟨_,rfl⟩
  rw[<-hbe]at x0 x1 x2 x3 xf hxz ⊢
  have hlt:w.heap.size<be:=by omega
  have hle:w.heap.size+1<=be:=by omega
  have hn1:¬w.heap.size=be:=by omega
  have hn2:¬be=w.heap.size:=by omega
  have hv1:=hv.keep aF
  clear hbe hX1 ho1 hb1
  obtain⟨b1,o1,e1,_,h0⟩:=hat 0 (by simp)
  obtain⟨b2,o2,e2,_,h1⟩:=hat 1 (by simp)
  rw[e1]at e2
  simp only[Option.some.injEq,Addr.mk.injEq,and_true]at e2
  obtain⟨rfl,rfl⟩:=e2
  subst e1
  simp only[List.length_cons,List.length_nil,Nat.zero_add,Nat.reduceAdd]at hc1 ⊢
  simp only[List.getElem_cons_zero,List.getElem_cons_succ,Nat.zero_mul,Nat.add_zero,Nat.one_mul,Nat.mul_one]at h0
  simp only[List.getElem_cons_zero,List.getElem_cons_succ,Nat.zero_mul,Nat.add_zero,Nat.one_mul,Nat.mul_one]at h1
  clear hat
  rw[hq]at h0
  clear hq
  go_wp2_with fail
  have y0:World.cell? (w1) ⟨be,0,none⟩=some (.int .i64 0):=by go_simp
  have y1:World.cell? (w1) ⟨be,1,none⟩=some (.string ⟨#[]⟩):=by go_simp
  have y2:World.cell? (w1) ⟨be,2,none⟩=some (.string ⟨#[]⟩):=by go_simp
  have y3:World.cell? (w1) ⟨be,3,none⟩=some (.slice none 0 0):=by go_simp
  have hBW:Below (w.heap.size+1) (w.alloc (.cells #[.int .i64 0,.string ⟨#[]⟩,.string ⟨#[]⟩,.slice none 0 0] 45)) (w1):=hB1
  have nC:au (w1) w1.heap.size (.slice none 0 0) []:=jY _ _
  have nD:=nC.at
  have hl2:w.heap.size<w1.heap.size:=hz1
  clear x0 x1 x2 x3 xf r0 r1 r2 r3 rf hz1 aF hv1 hB1
  obtain⟨q0,q1,q2,q3,qf,hz1,aF⟩:=aY hBW
  have aU:=hv.keep aF
  have HA:=Lib.hid (show aJ L ⟨0,⟨#[]⟩,⟨#[]⟩,[]⟩=none from SL L)
  have HO:Hid (o=none):=ho
  refine(oQ _ _ L ⟨0,⟨#[]⟩,⟨#[]⟩,[]⟩ _ aU hLn hLo nD (x9 (by decide) (by decide))).mono ?_
  rintro e5 w5⟨v5,rfl,dZ,hb5⟩
  rw[HA.out]
  simp only[Option.isSome_none]
  have gX:=hBW.trans (hb5.mono (by omega))
  clear q0 q1 q2 q3 qf hz1 aF y0 y1 y2 y3
  obtain⟨r0,r1,r2,r3,rf,hz1,aF⟩:=aY gX
  go_wp2
  refine bodyPost_ret (v:=.tuple #[.agg #[.int .i64 0,.string ⟨#[]⟩,.string ⟨#[]⟩,.slice none 0 0],.bool false]) (by simp[results,Tryz.results129,go_sem,r0,r1,r2,r3,rf,hz1]) rfl ?_
  rw[HO.out]
  refine kK ?_
  (repeat(first|(with_reducible refine Below.alloc ?_ ?_ _;rotate_left;(first|omega|(simp;done)|(simp;omega)))|(with_reducible refine Below.setCell ?_ ?_ _;rotate_left;(first|exact Nat.le_refl _|(simp;done)|(simp;omega)))|(with_reducible refine Below.drew ?_)));exact aF
theorem afR (v:Value) (L:List Df) (s:ByteArray) (P:List (List UInt8)) (w:World) (hv:aG w v L) (hg:good L=true) (hs:s.size<=1048576)
  (hsp:∀w,Calls Tryz.prog 178 #[.string s,.int .u8 32] w λe w'=>∃v,e=.returned v/\ru w' w.heap.size v P/\Below w.heap.size w w')
  (hlet:¬(4:Int)<s.size\/((4:Int)<s.size/\((s.extract 0 4).toList==[108,101,116,32])=false)) (o:Option En) (ho:o=none) (a0 b0 c0:List UInt8) (q0:ByteArray) (hP:P=[a0,b0,c0]) (hq:bytesOf a0=q0) (g3:(q0.toList==[110,97,109,101])=false) :
  Calls Tryz.prog 129 #[v,.string s] w (ny o w):=by
 subst hP;rcases hlet with g|⟨g,g2⟩
 all_goals
  obtain⟨a,cap,rfl⟩:∃a cap,v=.slice a L.length cap:=by obtain⟨a,cap,rfl,_⟩:=hv;exact⟨a,cap,rfl⟩
  obtain⟨hLo,hLn⟩:=mJ hg
  have rG:=Lib.hid hsp
  clear hsp
  go_enter Tryz.func129,Tryz.ntmps129
  go_wp2_with fail
  refine(rG.out _).mono ?_
  rintro e1 w1⟨v1,rfl,ho1,hb1⟩
  obtain⟨a1,c1,rfl,hc1,hat⟩:=ho1.at
  have hB1:Below (w.heap.size+1) (w.alloc (.cells #[.int .i64 0,.string ⟨#[]⟩,.string ⟨#[]⟩,.slice none 0 0] 45)) w1:=((aj (w.alloc (.cells #[.int .i64 0,.string ⟨#[]⟩,.string ⟨#[]⟩,.slice none 0 0] 45)) (.cells #[.int .i64 0,.string ⟨#[]⟩,.string ⟨#[]⟩,.slice none 0 0] 45)).mono (by simp)).trans (hb1.mono (by simp))
  have hX1:Below ((w.alloc (.cells #[.int .i64 0,.string ⟨#[]⟩,.string ⟨#[]⟩,.slice none 0 0] 45)).heap.size+1) ((w.alloc (.cells #[.int .i64 0,.string ⟨#[]⟩,.string ⟨#[]⟩,.slice none 0 0] 45)).alloc (.cells #[.int .i64 0,.string ⟨#[]⟩,.string ⟨#[]⟩,.slice none 0 0] 45)) w1:=hb1.mono (by simp)
  obtain⟨r0,r1,r2,r3,rf,hz1,aF⟩:=aY hB1
  obtain⟨x0,x1,x2,x3,xf,hxz,_⟩:=aY hX1
  simp only[World.size_alloc]at x0 x1 x2 x3 xf hxz
  obtain⟨be,hbe⟩:∃be,be=w.heap.size+1:=⟨_,rfl⟩
  rw[<-hbe]at x0 x1 x2 x3 xf hxz ⊢
  have hlt:w.heap.size<be:=by omega
  have hle:w.heap.size+1<=be:=by omega
  have hn1:¬w.heap.size=be:=by omega
  have hn2:¬be=w.heap.size:=by omega
  have hv1:=hv.keep aF
  clear hbe hX1 ho1 hb1
  obtain⟨b1,o1,e1,_,h0⟩:=hat 0 (by simp)
  obtain⟨b2,o2,e2,_,h1⟩:=hat 1 (by simp)
  rw[e1]at e2
  simp only[Option.some.injEq,Addr.mk.injEq,and_true]at e2
  obtain⟨rfl,rfl⟩:=e2
  obtain⟨b2,o2,e2,_,h2⟩:=hat 2 (by simp)
  rw[e1]at e2
  simp only[Option.some.injEq,Addr.mk.injEq,and_true]at e2
  obtain⟨rfl,rfl⟩:=e2
  subst e1
  simp only[List.length_cons,List.length_nil,Nat.zero_add,Nat.reduceAdd]at hc1 ⊢
  simp only[List.getElem_cons_zero,List.getElem_cons_succ,Nat.zero_mul,Nat.add_zero,Nat.one_mul,Nat.mul_one]at h0
  simp only[List.getElem_cons_zero,List.getElem_cons_succ,Nat.zero_mul,Nat.add_zero,Nat.one_mul,Nat.mul_one]at h1
  simp only[List.getElem_cons_zero,List.getElem_cons_succ,Nat.zero_mul,Nat.add_zero,Nat.one_mul,Nat.mul_one]at h2
  clear hat
  rw[hq]at h0
  clear hq
  go_wp2_with fail
  have y0:World.cell? (w1) ⟨be,0,none⟩=some (.int .i64 0):=by go_simp
  have y1:World.cell? (w1) ⟨be,1,none⟩=some (.string ⟨#[]⟩):=by go_simp
  have y2:World.cell? (w1) ⟨be,2,none⟩=some (.string ⟨#[]⟩):=by go_simp
  have y3:World.cell? (w1) ⟨be,3,none⟩=some (.slice none 0 0):=by go_simp
  have hBW:Below (w.heap.size+1) (w.alloc (.cells #[.int .i64 0,.string ⟨#[]⟩,.string ⟨#[]⟩,.slice none 0 0] 45)) (w1):=hB1
  have nC:au (w1) w1.heap.size (.slice none 0 0) []:=jY _ _
  have nD:=nC.at
  have hl2:w.heap.size<w1.heap.size:=hz1
  clear x0 x1 x2 x3 xf r0 r1 r2 r3 rf hz1 aF hv1 hB1
  obtain⟨q0,q1,q2,q3,qf,hz1,aF⟩:=aY hBW
  have aU:=hv.keep aF
  have HA:=Lib.hid (show aJ L ⟨0,⟨#[]⟩,⟨#[]⟩,[]⟩=none from SL L)
  have HO:Hid (o=none):=ho
  refine(oQ _ _ L ⟨0,⟨#[]⟩,⟨#[]⟩,[]⟩ _ aU hLn hLo nD (x9 (by decide) (by decide))).mono ?_
  rintro e5 w5⟨v5,rfl,dZ,hb5⟩
  rw[HA.out]
  simp only[Option.isSome_none]
  have gX:=hBW.trans (hb5.mono (by omega))
  clear q0 q1 q2 q3 qf hz1 aF y0 y1 y2 y3
  obtain⟨r0,r1,r2,r3,rf,hz1,aF⟩:=aY gX
  go_wp2
  refine bodyPost_ret (v:=.tuple #[.agg #[.int .i64 0,.string ⟨#[]⟩,.string ⟨#[]⟩,.slice none 0 0],.bool false]) (by simp[results,Tryz.results129,go_sem,r0,r1,r2,r3,rf,hz1]) rfl ?_
  rw[HO.out]
  refine kK ?_
  (repeat(first|(with_reducible refine Below.alloc ?_ ?_ _;rotate_left;(first|omega|(simp;done)|(simp;omega)))|(with_reducible refine Below.setCell ?_ ?_ _;rotate_left;(first|exact Nat.le_refl _|(simp;done)|(simp;omega)))|(with_reducible refine Below.drew ?_)));exact aF
theorem afS (v:Value) (L:List Df) (s:ByteArray) (P:List (List UInt8)) (w:World) (hv:aG w v L) (hg:good L=true) (hs:s.size<=1048576)
  (hsp:∀w,Calls Tryz.prog 178 #[.string s,.int .u8 32] w λe w'=>∃v,e=.returned v/\ru w' w.heap.size v P/\Below w.heap.size w w')
  (g:(4:Int)<s.size) (g2:((s.extract 0 4).toList==[108,101,116,32])=true) (X:ByteArray) (hX:s.extract 4 s.size=X) (sU:X.size<=4194304) (o:Option En) (hd:dX L X=none) (ho:o=none) :
  Calls Tryz.prog 129 #[v,.string s] w (ny o w):=by
 obtain⟨a,cap,rfl⟩:∃a cap,v=.slice a L.length cap:=by obtain⟨a,cap,rfl,_⟩:=hv;exact⟨a,cap,rfl⟩
 obtain⟨hLo,hLn⟩:=mJ hg;have rG:=Lib.hid hsp;clear hsp;go_enter Tryz.func129,Tryz.ntmps129;go_wp2_with fail
 refine(rG.out _).mono ?_;rintro e1 w1⟨v1,rfl,ho1,hb1⟩;obtain⟨a1,c1,rfl,hc1,hat⟩:=ho1.at
 have hB1:Below (w.heap.size+1) (w.alloc (.cells #[.int .i64 0,.string ⟨#[]⟩,.string ⟨#[]⟩,.slice none 0 0] 45)) w1:=((aj (w.alloc (.cells #[.int .i64 0,.string ⟨#[]⟩,.string ⟨#[]⟩,.slice none 0 0] 45)) (.cells #[.int .i64 0,.string ⟨#[]⟩,.string ⟨#[]⟩,.slice none 0 0] 45)).mono (by simp)).trans (hb1.mono (by simp));have hX1:Below ((w.alloc (.cells #[.int .i64 0,.string ⟨#[]⟩,.string ⟨#[]⟩,.slice none 0 0] 45)).heap.size+1) ((w.alloc (.cells #[.int .i64 0,.string ⟨#[]⟩,.string ⟨#[]⟩,.slice none 0 0] 45)).alloc (.cells #[.int .i64 0,.string ⟨#[]⟩,.string ⟨#[]⟩,.slice none 0 0] 45)) w1:=hb1.mono (by simp);obtain⟨r0,r1,r2,r3,rf,hz1,aF⟩:=aY hB1;obtain⟨x0,x1,x2,x3,xf,hxz,_⟩:=aY hX1;simp only[World.size_alloc]at x0 x1 x2 x3 xf hxz;obtain⟨be,hbe⟩:∃be,be=w.heap.size+1:=⟨_,rfl⟩
 rw[<-hbe]at x0 x1 x2 x3 xf hxz ⊢;have hlt:w.heap.size<be:=by omega
 have hle:w.heap.size+1<=be:=by omega
 have hn1:¬w.heap.size=be:=by omega
 have hn2:¬be=w.heap.size:=by omega
 have hv1:=hv.keep aF;clear hbe hX1 ho1 hb1;clear hat
 have HX:=Lib.hid hX;have HD:=Lib.hid hd;have HO:=Lib.hid ho;have lQ:=Xr _ L X w1 hv1 hg sU;rw[hd]at lQ;have HP:=Lib.hid lQ;clear hX hd ho lQ hg sU;go_wp2_with fail
 rw[HX.out];refine HP.out.mono ?_;rintro e2 w2⟨v2,rfl,ho2,hb2⟩;obtain⟨a2,c2,rfl⟩:=ho2.slice;have hB2:=hB1.trans (hb2.mono (by omega));clear r0 r1 r2 r3 rf hz1 aF;obtain⟨r0,r1,r2,r3,rf,hz1,aF⟩:=aY hB2;go_wp2;refine bodyPost_ret (v:=.tuple #[.agg #[.int .i64 0,.string ⟨#[]⟩,.string ⟨#[]⟩,.slice none 0 0],.bool false]) (by simp[results,Tryz.results129,go_sem,r0,r1,r2,r3,rf,hz1]) rfl ?_;rw[HO.out];refine kK ?_;(repeat(first|(with_reducible refine Below.alloc ?_ ?_ _;rotate_left;(first|omega|(simp;done)|(simp;omega)))|(with_reducible refine Below.setCell ?_ ?_ _;rotate_left;(first|exact Nat.le_refl _|(simp;done)|(simp;omega)))|(with_reducible refine Below.drew ?_)));exact aF
theorem afT (v:Value) (L:List Df) (s:ByteArray) (P:List (List UInt8)) (w:World) (hv:aG w v L) (hg:good L=true) (hs:s.size<=1048576)
  (hsp:∀w,Calls Tryz.prog 178 #[.string s,.int .u8 32] w λe w'=>∃v,e=.returned v/\ru w' w.heap.size v P/\Below w.heap.size w w')
  (g:(4:Int)<s.size) (g2:((s.extract 0 4).toList==[108,101,116,32])=true) (X:ByteArray) (hX:s.extract 4 s.size=X) (sU:X.size<=4194304) (o:Option En) (d:Df) (hd:dX L X=some d) (hee:dW ⟨1,d.name,⟨#[]⟩,d.body⟩) (ho:jh L s (some ⟨1,d.name,⟨#[]⟩,d.body⟩)=o) :
  Calls Tryz.prog 129 #[v,.string s] w (ny o w):=by
 obtain⟨a,cap,rfl⟩:∃a cap,v=.slice a L.length cap:=by obtain⟨a,cap,rfl,_⟩:=hv;exact⟨a,cap,rfl⟩
 obtain⟨hLo,hLn⟩:=mJ hg;have rG:=Lib.hid hsp;clear hsp;go_enter Tryz.func129,Tryz.ntmps129;go_wp2_with fail
 refine(rG.out _).mono ?_;rintro e1 w1⟨v1,rfl,ho1,hb1⟩;obtain⟨a1,c1,rfl,hc1,hat⟩:=ho1.at
 have hB1:Below (w.heap.size+1) (w.alloc (.cells #[.int .i64 0,.string ⟨#[]⟩,.string ⟨#[]⟩,.slice none 0 0] 45)) w1:=((aj (w.alloc (.cells #[.int .i64 0,.string ⟨#[]⟩,.string ⟨#[]⟩,.slice none 0 0] 45)) (.cells #[.int .i64 0,.string ⟨#[]⟩,.string ⟨#[]⟩,.slice none 0 0] 45)).mono (by simp)).trans (hb1.mono (by simp));have hX1:Below ((w.alloc (.cells #[.int .i64 0,.string ⟨#[]⟩,.string ⟨#[]⟩,.slice none 0 0] 45)).heap.size+1) ((w.alloc (.cells #[.int .i64 0,.string ⟨#[]⟩,.string ⟨#[]⟩,.slice none 0 0] 45)).alloc (.cells #[.int .i64 0,.string ⟨#[]⟩,.string ⟨#[]⟩,.slice none 0 0] 45)) w1:=hb1.mono (by simp);obtain⟨r0,r1,r2,r3,rf,hz1,aF⟩:=aY hB1;obtain⟨x0,x1,x2,x3,xf,hxz,_⟩:=aY hX1;simp only[World.size_alloc]at x0 x1 x2 x3 xf hxz;obtain⟨be,hbe⟩:∃be,be=w.heap.size+1:=⟨_,rfl⟩
 rw[<-hbe]at x0 x1 x2 x3 xf hxz ⊢;have hlt:w.heap.size<be:=by omega
 have hle:w.heap.size+1<=be:=by omega
 have hn1:¬w.heap.size=be:=by omega
 have hn2:¬be=w.heap.size:=by omega
 have hv1:=hv.keep aF;clear hbe hX1 ho1 hb1;clear hat
 have HX:=Lib.hid hX;have lQ:=Xr _ L X w1 hv1 hg sU;rw[hd]at lQ;have HP:=Lib.hid lQ;clear hX hd lQ hg sU;go_wp2_with fail
 rw[HX.out];refine HP.out.mono ?_;rintro e2 w2⟨v2,rfl,ho2,hb2⟩;simp only[Option.getD_some,Option.isSome_some]at ho2 ⊢;obtain⟨a2,c2,rfl⟩:=ho2.slice;have hB2:=hB1.trans (hb2.mono (by omega));clear r0 r1 r2 r3 rf;obtain⟨r0,r1,r2,r3,rf,_,hbw2⟩:=aY hB2;replace x0:=ak hb2 x0;replace x1:=ak hb2 x1;replace x2:=ak hb2 x2;replace x3:=ak hb2 x3;have ah5:=cell_lt x0;have xf2:∀j,w2.frozen? ⟨be,j,none⟩=false:=λj=>(hb2.frozen (p:=⟨be,j,none⟩) hxz).trans (xf j);have RN:=hb2.size;have hzz:w.heap.size<w2.heap.size:=by omega
 clear xf;have xf:=xf2;go_wp2_with fail
 have y0:World.cell? (((((w2.setCell ⟨be,0,none⟩ (.int .i64 1)).setCell ⟨be,1,none⟩ (.string d.name)).setCell ⟨be,2,none⟩ (.string ⟨#[]⟩)).setCell ⟨be,3,none⟩ (.slice a2 d.body.length c2)).alloc (.cells #[.string d.name,.int .i64 d.inn,.int .i64 d.out,.slice a2 d.body.length c2] 101)) ⟨be,0,none⟩=some (.int .i64 1):=by go_simp
 have y1:World.cell? (((((w2.setCell ⟨be,0,none⟩ (.int .i64 1)).setCell ⟨be,1,none⟩ (.string d.name)).setCell ⟨be,2,none⟩ (.string ⟨#[]⟩)).setCell ⟨be,3,none⟩ (.slice a2 d.body.length c2)).alloc (.cells #[.string d.name,.int .i64 d.inn,.int .i64 d.out,.slice a2 d.body.length c2] 101)) ⟨be,1,none⟩=some (.string d.name):=by go_simp
 have y2:World.cell? (((((w2.setCell ⟨be,0,none⟩ (.int .i64 1)).setCell ⟨be,1,none⟩ (.string d.name)).setCell ⟨be,2,none⟩ (.string ⟨#[]⟩)).setCell ⟨be,3,none⟩ (.slice a2 d.body.length c2)).alloc (.cells #[.string d.name,.int .i64 d.inn,.int .i64 d.out,.slice a2 d.body.length c2] 101)) ⟨be,2,none⟩=some (.string ⟨#[]⟩):=by go_simp
 have y3:World.cell? (((((w2.setCell ⟨be,0,none⟩ (.int .i64 1)).setCell ⟨be,1,none⟩ (.string d.name)).setCell ⟨be,2,none⟩ (.string ⟨#[]⟩)).setCell ⟨be,3,none⟩ (.slice a2 d.body.length c2)).alloc (.cells #[.string d.name,.int .i64 d.inn,.int .i64 d.out,.slice a2 d.body.length c2] 101)) ⟨be,3,none⟩=some (.slice a2 d.body.length c2):=by go_simp
 have hBW:Below (w.heap.size+1) (w.alloc (.cells #[.int .i64 0,.string ⟨#[]⟩,.string ⟨#[]⟩,.slice none 0 0] 45)) (((((w2.setCell ⟨be,0,none⟩ (.int .i64 1)).setCell ⟨be,1,none⟩ (.string d.name)).setCell ⟨be,2,none⟩ (.string ⟨#[]⟩)).setCell ⟨be,3,none⟩ (.slice a2 d.body.length c2)).alloc (.cells #[.string d.name,.int .i64 d.inn,.int .i64 d.out,.slice a2 d.body.length c2] 101)):=((((hB2.setCell hle _).setCell hle _).setCell hle _).setCell hle _).alloc (by simp;omega) _;have nC:au (((((w2.setCell ⟨be,0,none⟩ (.int .i64 1)).setCell ⟨be,1,none⟩ (.string d.name)).setCell ⟨be,2,none⟩ (.string ⟨#[]⟩)).setCell ⟨be,3,none⟩ (.slice a2 d.body.length c2)).alloc (.cells #[.string d.name,.int .i64 d.inn,.int .i64 d.out,.slice a2 d.body.length c2] 101)) w1.heap.size (.slice a2 d.body.length c2) d.body:=((((ho2.bY (a:=⟨be,0,none⟩) hxz _).bY (a:=⟨be,1,none⟩) hxz _).bY (a:=⟨be,2,none⟩) hxz _).bY (a:=⟨be,3,none⟩) hxz _).keep (aj _ _);generalize((((w2.setCell ⟨be,0,none⟩ (.int .i64 1)).setCell ⟨be,1,none⟩ (.string d.name)).setCell ⟨be,2,none⟩ (.string ⟨#[]⟩)).setCell ⟨be,3,none⟩ (.slice a2 d.body.length c2)).alloc (.cells #[.string d.name,.int .i64 d.inn,.int .i64 d.out,.slice a2 d.body.length c2] 101)=W at y0 y1 y2 y3 hBW nC ⊢;have nD:=nC.at
 have hl2:w.heap.size<w1.heap.size:=hz1;clear x0 x1 x2 x3 xf r0 r1 r2 r3 rf hz1 aF hv1 hB1;obtain⟨q0,q1,q2,q3,qf,hz1,aF⟩:=aY hBW;have hyz:be<W.heap.size:=cell_lt y0;have aU:=hv.keep aF;cases hap:aJ L (⟨1,d.name,⟨#[]⟩,d.body⟩:En)with
 | none =>
  have HO:Hid (o=none):=(show _=_ by rw[<-ho];exact Gz hap)
  have HA:=Lib.hid hap
  clear hap ho
  refine(oQ _ _ L (⟨1,d.name,⟨#[]⟩,d.body⟩:En) _ aU hLn hLo nD hee).mono ?_
  rintro e5 w5⟨v5,rfl,dZ,hb5⟩
  rw[HA.out]
  simp only[Option.isSome_none]
  have gX:=hBW.trans (hb5.mono (by omega))
  clear q0 q1 q2 q3 qf hz1 aF
  obtain⟨r0,r1,r2,r3,rf,hz1,aF⟩:=aY gX
  go_wp2
  refine bodyPost_ret (v:=.tuple #[.agg #[.int .i64 0,.string ⟨#[]⟩,.string ⟨#[]⟩,.slice none 0 0],.bool false]) (by simp[results,Tryz.results129,go_sem,r0,r1,r2,r3,rf,hz1]) rfl ?_
  rw[HO.out]
  refine kK ?_
  (repeat(first|(with_reducible refine Below.alloc ?_ ?_ _;rotate_left;(first|omega|(simp;done)|(simp;omega)))|(with_reducible refine Below.setCell ?_ ?_ _;rotate_left;(first|exact Nat.le_refl _|(simp;done)|(simp;omega)))|(with_reducible refine Below.drew ?_)));exact aF
 | some R =>
  have HA:=Lib.hid hap
  have HK:Hid (o=if aH (⟨1,d.name,⟨#[]⟩,d.body⟩:En)=s then some (⟨1,d.name,⟨#[]⟩,d.body⟩:En)else none):=(show _=_ by rw[<-ho];simp[jh,hap])
  clear ho
  refine(oQ _ _ L (⟨1,d.name,⟨#[]⟩,d.body⟩:En) _ aU hLn hLo nD hee).mono ?_
  rintro e5 w5⟨v5,rfl,dZ,hb5⟩
  rw[HA.out]
  simp only[Option.isSome_some]
  have gX:=hBW.trans (hb5.mono (by omega))
  have z0:=ak hb5 y0
  have z1:=ak hb5 y1
  have z2:=ak hb5 y2
  have z3:=ak hb5 y3
  have zO:=nC.keep hb5
  have vW:be<w5.heap.size:=cell_lt z0
  clear dZ hap y0 y1 y2 y3 q0 q1 q2 q3 qf hz1 aF
  go_wp2_with fail
  refine(DL DN _ L R (⟨1,d.name,⟨#[]⟩,d.body⟩:En) _ zO.at hee HA.out).mono ?_
  rintro e6 w6⟨rfl,hb6⟩
  have dH:=gX.trans (hb6.mono (by have:=gX.size;simp at this;omega))
  have y0:=ak hb6 z0
  have y1:=ak hb6 z1
  have y2:=ak hb6 z2
  have y3:=ak hb6 z3
  have dK:=zO.keep hb6
  obtain⟨r0,r1,r2,r3,rf,hz1,aF⟩:=aY dH
  have uy:be<w6.heap.size:=cell_lt y0
  clear z0 z1 z2 z3
  obtain⟨tx,htx⟩:∃tx,aH (⟨1,d.name,⟨#[]⟩,d.body⟩:En)=tx:=⟨_,rfl⟩
  rw[htx]at HK ⊢
  by_cases hts:tx=s
  ·subst hts
   have HO:Hid (o=some (⟨1,d.name,⟨#[]⟩,d.body⟩:En)):=(show _=_ by rw[HK.out,if_pos rfl])
   clear HK
   go_wp2
   refine bodyPost_ret (v:=.tuple #[.agg #[.int .i64 1,.string d.name,.string ⟨#[]⟩,.slice a2 d.body.length c2],.bool true]) (by simp[results,Tryz.results129,go_sem,r0,r1,r2,r3,rf,hz1]) rfl ?_
   rw[HO.out]
   refine⟨_,rfl,?_,?_⟩
   ·exact au.mono (B:=w1.heap.size) (by omega) ((((dK.bY (a:=⟨w.heap.size,0,none⟩) hl2 _).bY (a:=⟨w.heap.size,1,none⟩) hl2 _).bY (a:=⟨w.heap.size,2,none⟩) hl2 _).bY (a:=⟨w.heap.size,3,none⟩) hl2 _)
   ·(repeat(first|(with_reducible refine Below.alloc ?_ ?_ _;rotate_left;(first|omega|(simp;done)|(simp;omega)))|(with_reducible refine Below.setCell ?_ ?_ _;rotate_left;(first|exact Nat.le_refl _|(simp;done)|(simp;omega)))|(with_reducible refine Below.drew ?_)));exact aF
  ·have HO:Hid (o=none):=(show _=_ by rw[HK.out,if_neg hts])
   have g1:=u_ hts
   clear HK hts
   go_wp2
   refine bodyPost_ret (v:=.tuple #[.agg #[.int .i64 0,.string ⟨#[]⟩,.string ⟨#[]⟩,.slice none 0 0],.bool false]) (by simp[results,Tryz.results129,go_sem,r0,r1,r2,r3,rf,hz1]) rfl ?_
   rw[HO.out]
   refine kK ?_
   (repeat(first|(with_reducible refine Below.alloc ?_ ?_ _;rotate_left;(first|omega|(simp;done)|(simp;omega)))|(with_reducible refine Below.setCell ?_ ?_ _;rotate_left;(first|exact Nat.le_refl _|(simp;done)|(simp;omega)))|(with_reducible refine Below.drew ?_)));exact aF
theorem afU (v:Value) (L:List Df) (s:ByteArray) (w:World) (hv:aG w v L) (hg:good L=true) (hs:s.size<=1048576) :
  Calls Tryz.prog 129 #[v,.string s] w (ny (jR L s) w):=by
 obtain⟨P,hP⟩:∃P,splitB 32 [] s.data.toList=P:=⟨_,rfl⟩
 have hsp:=λw=>adX s 32 w (by omega);rw[hP]at hsp;rw[show(((32:UInt8).toNat:Nat):Int)=32 from rfl]at hsp;have hPe:∀p∈P,p.length<=s.size:=λp hp=>by rw[<-hP]at hp;have:=Qm 32 _ _ p hp;simpa using this
 obtain⟨o,ho⟩:∃o,jR L s=o:=⟨_,rfl⟩
 rw[ho];rw[<-adZ s]at ho;unfold Qp at ho;have hlen:s.data.toList.length=s.size:=by simp
 by_cases hlet:4<s.data.toList.length/\qA.isPrefixOf s.data.toList=true
 ·rw[if_pos hlet]at ho;have h4:(s.extract 0 4)=⟨#[108,101,116,32]⟩:=by
   obtain⟨r,hr⟩:=List.isPrefixOf_iff_prefix.1 hlet.2;have:nZ s 0 4=qA:=by rw[xP,<-hr];rfl
   rw[<-Ea,this];rfl
  have hX:s.extract 4 s.size=bytesOf (s.data.toList.drop 4):=by
   rw[<-Ea,xP,<-hlen,List.take_length]
  have sU:(bytesOf (s.data.toList.drop 4)).size<=4194304:=by have:=SN s 4;omega
  have g2:((s.extract 0 4).toList==[108,101,116,32])=true:=by rw[h4,ByteArray.toList_eq];decide
  cases hd:dX L (bytesOf (s.data.toList.drop 4))with
  | none=>rw[hd]at ho;exact afS v L s P w hv hg hs hsp (by omega) g2 _ hX sU o hd ho.symm
  | some d=>rw[hd]at ho;exact afT v L s P w hv hg hs hsp (by omega) g2 _ hX sU o d hd (SQ hg hd) ho
 rw[if_neg hlet,hP]at ho;have hl:¬(4:Int)<s.size\/((4:Int)<s.size/\((s.extract 0 4).toList==[108,101,116,32])=false):=by
  by_cases h4:4<s.size
  ·refine .inr ⟨by omega,?_⟩;have hne:¬s.extract 0 4=⟨#[108,101,116,32]⟩:=by
    intro e;apply hlet;refine⟨by omega,List.isPrefixOf_iff_prefix.2 ⟨s.data.toList.drop 4,?_⟩⟩;have h5:nZ s 0 4=qA:=by unfold nZ;rw[e];rfl
    rw[xP,List.drop_zero]at h5;rw[<-h5,List.take_append_drop]
   have:=u_ hne;rwa [show(⟨#[108,101,116,32]⟩:ByteArray).toList=[108,101,116,32]by rw[ByteArray.toList_eq]]at this
  ·exact .inl (by omega)
 have bz:∀p∈P,(bytesOf p).size<=1048576:=λp hp=>by rw[oD];have:=hPe p hp;omega
 match P,ho,hsp,bz,hP with
 | [],ho,hsp,bz,hP=>exact absurd hP (KC _ _ _)
 | [a],ho,hsp,bz,hP=>exact ZO v L s _ w hv hg hs hsp hl o (by rw[<-ho];exact wE L s) (by simp) (by simp)
 | [a,b],ho,hsp,bz,hP =>
  simp only at ho
  by_cases ha:a=rC
  ·rw[if_pos ha]at ho
   exact afO v L s _ w hv hg hs hsp hl b _ o (by rw[ha]) rfl (x9 (bz b (by simp)) (by decide)) ho
  ·rw[if_neg ha]at ho
   have hne:¬bytesOf a=⟨#[100,114,111,112]⟩:=λe=>ha (by have:=congrArg (λx:ByteArray=>x.data.toList) e;simpa[bytesOf,rC]using this)
   have:=u_ hne
   rw[show(⟨#[100,114,111,112]⟩:ByteArray).toList=[100,114,111,112]by rw[ByteArray.toList_eq]]at this
   exact afQ v L s _ w hv hg hs hsp hl o (by rw[<-ho];exact wE L s) a b _ rfl rfl this
 | [a,b,c],ho,hsp,bz,hP =>
  simp only at ho
  by_cases ha:a=rD
  ·rw[if_pos ha]at ho
   exact afP v L s _ w hv hg hs hsp hl b c _ _ o (by rw[ha]) rfl rfl (x9 (bz b (by simp)) (bz c (by simp))) ho
  ·rw[if_neg ha]at ho
   have hne:¬bytesOf a=⟨#[110,97,109,101]⟩:=λe=>ha (by have:=congrArg (λx:ByteArray=>x.data.toList) e;simpa[bytesOf,rD]using this)
   have:=u_ hne
   rw[show(⟨#[110,97,109,101]⟩:ByteArray).toList=[110,97,109,101]by rw[ByteArray.toList_eq]]at this
   exact afR v L s _ w hv hg hs hsp hl o (by rw[<-ho];exact wE L s) a b c _ rfl rfl this
 | a::b::c::d::t,ho,hsp,bz,hP=>exact ZO v L s _ w hv hg hs hsp hl o (by rw[<-ho];exact wE L s) (by simp;omega) (by simp;omega)
end Go.Proofs.YtikgblkfmpecfaaGreatDoor
