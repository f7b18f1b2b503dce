/-
  The reference's joRead, way by way. By a program of my own (parPs.py).
-/
import Derived.Test.YtldhpaflmnlcaaaGreatDoorQPeK
import Derived.Test.YtldhpaflmnlcaaaGreatDoorQLW
import Derived.Test.YtldhpaflmnlcaaaGreatDoorQGG
import Derived.Test.YtldhpaflmnlcaaaGreatDoorQX
set_option linter.all false
set_option maxRecDepth 100000
set_option maxHeartbeats 8000000
namespace Go.Proofs.YtldhpaflmnlcaaaGreatDoor
open Go.RowKit
theorem joRead_drop (v:Value) (L:List Df) (s:ByteArray) (P:List (List UInt8)) (w:World) (hv:DfsAt w v L) (hg:good L=true) (hs:s.size≤1048576)
  (hsp:∀ w,Calls Tryz.prog 74 #[.string s,.int .u8 32] w fun e w'=>∃ v,e=.returned v∧PartsOwn w' w.heap.size v P∧Below w.heap.size w w')
  (hlet:¬ (4:Int)<s.size∨((4:Int)<s.size∧((s.extract 0 4).toList == [108,101,116,32])=false)) (b:List UInt8) (X:ByteArray) (o:Option En) (hP:P=[lDrop,b]) (hX:bytesOf b=X) (hee:EnOk ⟨2,X,⟨#[]⟩,[]⟩) (ho:checkE L s (some ⟨2,X,⟨#[]⟩,[]⟩)=o) :
  Calls Tryz.prog 92 #[v,.string s] w (EntP o w):=by
 subst hP
 rcases hlet with g|⟨g,g2⟩
 all_goals
  obtain ⟨a,cap,rfl⟩:∃ a cap,v=.slice a L.length cap:=by obtain ⟨a,cap,rfl,_⟩:=hv;exact ⟨a,cap,rfl⟩
  obtain ⟨hLo,hLn⟩:=goodLib_okP hg
  have HSP:=Lib.hid hsp
  clear hsp
  go_enter Tryz.func92,Tryz.ntmps92
  go_wp2_with fail
  refine (HSP.out _).mono ?_
  rintro e1 w1 ⟨v1,rfl,ho1,hb1⟩
  obtain ⟨a1,c1,rfl,hc1,hat⟩:=ho1.at
  have hB1:Below (w.heap.size+1) (w.alloc (.cells #[.int .i64 0,.string ⟨#[]⟩,.string ⟨#[]⟩,.slice none 0 0] 54)) w1:=((alloc_below (w.alloc (.cells #[.int .i64 0,.string ⟨#[]⟩,.string ⟨#[]⟩,.slice none 0 0] 54)) (.cells #[.int .i64 0,.string ⟨#[]⟩,.string ⟨#[]⟩,.slice none 0 0] 54)).mono (by simp)).trans (hb1.mono (by simp))
  have hX1:Below ((w.alloc (.cells #[.int .i64 0,.string ⟨#[]⟩,.string ⟨#[]⟩,.slice none 0 0] 54)).heap.size+1) ((w.alloc (.cells #[.int .i64 0,.string ⟨#[]⟩,.string ⟨#[]⟩,.slice none 0 0] 54)).alloc (.cells #[.int .i64 0,.string ⟨#[]⟩,.string ⟨#[]⟩,.slice none 0 0] 54)) w1:=hb1.mono (by simp)
  obtain ⟨r0,r1,r2,r3,rf,hz1,hbw1⟩:=res4 hB1
  obtain ⟨x0,x1,x2,x3,xf,hxz,_⟩:=res4 hX1
  simp only [World.size_alloc] at x0 x1 x2 x3 xf hxz
  obtain ⟨be,hbe⟩:∃ be,be=w.heap.size+1:=⟨_,rfl⟩
  rw [← hbe] at x0 x1 x2 x3 xf hxz ⊢
  have hlt:w.heap.size<be:=by omega
  have hle:w.heap.size+1≤be:=by omega
  have hn1:¬ w.heap.size=be:=by omega
  have hn2:¬ be=w.heap.size:=by omega
  have hv1:=hv.keep hbw1
  clear hbe hX1 ho1 hb1
  obtain ⟨b1,o1,e1,_,h0⟩:=hat 0 (by simp)
  obtain ⟨b2,o2,e2,_,h1⟩:=hat 1 (by simp)
  rw [e1] at e2
  simp only [Option.some.injEq,Addr.mk.injEq,and_true] at e2
  obtain ⟨rfl,rfl⟩:=e2
  subst e1
  simp only [List.length_cons,List.length_nil,Nat.zero_add,Nat.reduceAdd] at hc1 ⊢
  simp only [List.getElem_cons_zero,List.getElem_cons_succ,Nat.zero_mul,Nat.add_zero,Nat.one_mul,Nat.mul_one] at h0
  simp only [List.getElem_cons_zero,List.getElem_cons_succ,Nat.zero_mul,Nat.add_zero,Nat.one_mul,Nat.mul_one] at h1
  clear hat
  rw [show bytesOf lDrop=(⟨#[100,114,111,112]⟩:ByteArray) from rfl] at h0
  rw [hX] at h1
  clear hX
  go_wp2_with fail
  have y0:World.cell? ((((w1.setCell ⟨be,0,none⟩ (.int .i64 2)).setCell ⟨be,1,none⟩ (.string X)).setCell ⟨be,2,none⟩ (.string ⟨#[]⟩)).setCell ⟨be,3,none⟩ (.slice none 0 0)) ⟨be,0,none⟩=some (.int .i64 2):=by go_simp
  have y1:World.cell? ((((w1.setCell ⟨be,0,none⟩ (.int .i64 2)).setCell ⟨be,1,none⟩ (.string X)).setCell ⟨be,2,none⟩ (.string ⟨#[]⟩)).setCell ⟨be,3,none⟩ (.slice none 0 0)) ⟨be,1,none⟩=some (.string X):=by go_simp
  have y2:World.cell? ((((w1.setCell ⟨be,0,none⟩ (.int .i64 2)).setCell ⟨be,1,none⟩ (.string X)).setCell ⟨be,2,none⟩ (.string ⟨#[]⟩)).setCell ⟨be,3,none⟩ (.slice none 0 0)) ⟨be,2,none⟩=some (.string ⟨#[]⟩):=by go_simp
  have y3:World.cell? ((((w1.setCell ⟨be,0,none⟩ (.int .i64 2)).setCell ⟨be,1,none⟩ (.string X)).setCell ⟨be,2,none⟩ (.string ⟨#[]⟩)).setCell ⟨be,3,none⟩ (.slice none 0 0)) ⟨be,3,none⟩=some (.slice none 0 0):=by go_simp
  have hBW:Below (w.heap.size+1) (w.alloc (.cells #[.int .i64 0,.string ⟨#[]⟩,.string ⟨#[]⟩,.slice none 0 0] 54)) ((((w1.setCell ⟨be,0,none⟩ (.int .i64 2)).setCell ⟨be,1,none⟩ (.string X)).setCell ⟨be,2,none⟩ (.string ⟨#[]⟩)).setCell ⟨be,3,none⟩ (.slice none 0 0)):=(((hB1.setCell hle _).setCell hle _).setCell hle _).setCell hle _
  have hoO:NdsOwn ((((w1.setCell ⟨be,0,none⟩ (.int .i64 2)).setCell ⟨be,1,none⟩ (.string X)).setCell ⟨be,2,none⟩ (.string ⟨#[]⟩)).setCell ⟨be,3,none⟩ (.slice none 0 0)) w1.heap.size (.slice none 0 0) []:=nds_none _ _
  generalize (((w1.setCell ⟨be,0,none⟩ (.int .i64 2)).setCell ⟨be,1,none⟩ (.string X)).setCell ⟨be,2,none⟩ (.string ⟨#[]⟩)).setCell ⟨be,3,none⟩ (.slice none 0 0)=W at y0 y1 y2 y3 hBW hoO ⊢
  have hoW:=hoO.at
  have hl2:w.heap.size<w1.heap.size:=hz1
  clear x0 x1 x2 x3 xf r0 r1 r2 r3 rf hz1 hbw1 hv1 hB1
  obtain ⟨q0,q1,q2,q3,qf,hz1,hbw1⟩:=res4 hBW
  have hyz:be<W.heap.size:=cell_lt y0
  have hvW:=hv.keep hbw1
  cases hap:applyE L (⟨2,X,⟨#[]⟩,[]⟩:En) with
  | none =>
   have HO:Hid (o=none):=(show _=_ by rw [← ho];exact check_no hap)
   have HA:=Lib.hid hap
   clear hap ho
   refine (specApply_any _ _ L (⟨2,X,⟨#[]⟩,[]⟩:En) _ hvW hLn hLo hoW hee).mono ?_
   rintro e5 w5 ⟨v5,rfl,ho5,hb5⟩
   rw [HA.out]
   simp only [Option.isSome_none]
   have hB5:=hBW.trans (hb5.mono (by omega))
   clear q0 q1 q2 q3 qf hz1 hbw1
   obtain ⟨r0,r1,r2,r3,rf,hz1,hbw1⟩:=res4 hB5
   go_wp2
   refine bodyPost_ret (v:=.tuple #[.agg #[.int .i64 0,.string ⟨#[]⟩,.string ⟨#[]⟩,.slice none 0 0],.bool false]) (by simp [results,Tryz.results92,go_sem,r0,r1,r2,r3,rf,hz1]) rfl ?_
   rw [HO.out]
   refine entP_none ?_
   (repeat (first|(with_reducible refine Below.alloc ?_ ?_ _;rotate_left;(first|omega|(simp;done)|(simp;omega)))|(with_reducible refine Below.setCell ?_ ?_ _;rotate_left;(first|exact Nat.le_refl _|(simp;done)|(simp;omega)))|(with_reducible refine Below.drew ?_)));exact hbw1
  | some R =>
   have HA:=Lib.hid hap
   have HK:Hid (o=if txtE (⟨2,X,⟨#[]⟩,[]⟩:En)=s then some (⟨2,X,⟨#[]⟩,[]⟩:En) else none):=(show _=_ by rw [← ho];simp [checkE,hap])
   clear ho
   refine (specApply_any _ _ L (⟨2,X,⟨#[]⟩,[]⟩:En) _ hvW hLn hLo hoW hee).mono ?_
   rintro e5 w5 ⟨v5,rfl,ho5,hb5⟩
   rw [HA.out]
   simp only [Option.isSome_some]
   have hB5:=hBW.trans (hb5.mono (by omega))
   have z0:=cell_keep hb5 y0
   have z1:=cell_keep hb5 y1
   have z2:=cell_keep hb5 y2
   have z3:=cell_keep hb5 y3
   have ho5b:=hoO.keep hb5
   have hz5:be<w5.heap.size:=cell_lt z0
   clear ho5 hap y0 y1 y2 y3 q0 q1 q2 q3 qf hz1 hbw1
   go_wp2_with fail
   refine (joText_any numOk _ L R (⟨2,X,⟨#[]⟩,[]⟩:En) _ ho5b.at hee HA.out).mono ?_
   rintro e6 w6 ⟨rfl,hb6⟩
   have hB6:=hB5.trans (hb6.mono (by have:=hB5.size;simp at this;omega))
   have y0:=cell_keep hb6 z0
   have y1:=cell_keep hb6 z1
   have y2:=cell_keep hb6 z2
   have y3:=cell_keep hb6 z3
   have ho6:=ho5b.keep hb6
   obtain ⟨r0,r1,r2,r3,rf,hz1,hbw1⟩:=res4 hB6
   have hz6:be<w6.heap.size:=cell_lt y0
   clear z0 z1 z2 z3
   obtain ⟨tx,htx⟩:∃ tx,txtE (⟨2,X,⟨#[]⟩,[]⟩:En)=tx:=⟨_,rfl⟩
   rw [htx] at HK ⊢
   by_cases hts:tx=s
   ·subst hts
    have HO:Hid (o=some (⟨2,X,⟨#[]⟩,[]⟩:En)):=(show _=_ by rw [HK.out,if_pos rfl])
    clear HK
    go_wp2
    refine bodyPost_ret (v:=.tuple #[.agg #[.int .i64 2,.string X,.string ⟨#[]⟩,.slice none 0 0],.bool true]) (by simp [results,Tryz.results92,go_sem,r0,r1,r2,r3,rf,hz1]) rfl ?_
    rw [HO.out]
    refine ⟨_,rfl,?_,?_⟩
    ·exact NdsOwn.mono (B:=w1.heap.size) (by omega) ((((ho6.setLow (a:=⟨w.heap.size,0,none⟩) hl2 _).setLow (a:=⟨w.heap.size,1,none⟩) hl2 _).setLow (a:=⟨w.heap.size,2,none⟩) hl2 _).setLow (a:=⟨w.heap.size,3,none⟩) hl2 _)
    ·(repeat (first|(with_reducible refine Below.alloc ?_ ?_ _;rotate_left;(first|omega|(simp;done)|(simp;omega)))|(with_reducible refine Below.setCell ?_ ?_ _;rotate_left;(first|exact Nat.le_refl _|(simp;done)|(simp;omega)))|(with_reducible refine Below.drew ?_)));exact hbw1
   ·have HO:Hid (o=none):=(show _=_ by rw [HK.out,if_neg hts])
    have g1:=str_ne hts
    clear HK hts
    go_wp2
    refine bodyPost_ret (v:=.tuple #[.agg #[.int .i64 0,.string ⟨#[]⟩,.string ⟨#[]⟩,.slice none 0 0],.bool false]) (by simp [results,Tryz.results92,go_sem,r0,r1,r2,r3,rf,hz1]) rfl ?_
    rw [HO.out]
    refine entP_none ?_
    (repeat (first|(with_reducible refine Below.alloc ?_ ?_ _;rotate_left;(first|omega|(simp;done)|(simp;omega)))|(with_reducible refine Below.setCell ?_ ?_ _;rotate_left;(first|exact Nat.le_refl _|(simp;done)|(simp;omega)))|(with_reducible refine Below.drew ?_)));exact hbw1
end Go.Proofs.YtldhpaflmnlcaaaGreatDoor
/-
  The reference's joRead, way by way. By a program of my own (parPs.py).
-/
namespace Go.Proofs.YtldhpaflmnlcaaaGreatDoor
open Go.RowKit
theorem joRead_name (v:Value) (L:List Df) (s:ByteArray) (P:List (List UInt8)) (w:World) (hv:DfsAt w v L) (hg:good L=true) (hs:s.size≤1048576)
  (hsp:∀ w,Calls Tryz.prog 74 #[.string s,.int .u8 32] w fun e w'=>∃ v,e=.returned v∧PartsOwn w' w.heap.size v P∧Below w.heap.size w w')
  (hlet:¬ (4:Int)<s.size∨((4:Int)<s.size∧((s.extract 0 4).toList == [108,101,116,32])=false)) (b c:List UInt8) (X Y:ByteArray) (o:Option En) (hP:P=[lName,b,c]) (hX:bytesOf b=X) (hY:bytesOf c=Y) (hee:EnOk ⟨3,X,Y,[]⟩) (ho:checkE L s (some ⟨3,X,Y,[]⟩)=o) :
  Calls Tryz.prog 92 #[v,.string s] w (EntP o w):=by
 subst hP
 rcases hlet with g|⟨g,g2⟩
 all_goals
  obtain ⟨a,cap,rfl⟩:∃ a cap,v=.slice a L.length cap:=by obtain ⟨a,cap,rfl,_⟩:=hv;exact ⟨a,cap,rfl⟩
  obtain ⟨hLo,hLn⟩:=goodLib_okP hg
  have HSP:=Lib.hid hsp
  clear hsp
  go_enter Tryz.func92,Tryz.ntmps92
  go_wp2_with fail
  refine (HSP.out _).mono ?_
  rintro e1 w1 ⟨v1,rfl,ho1,hb1⟩
  obtain ⟨a1,c1,rfl,hc1,hat⟩:=ho1.at
  have hB1:Below (w.heap.size+1) (w.alloc (.cells #[.int .i64 0,.string ⟨#[]⟩,.string ⟨#[]⟩,.slice none 0 0] 54)) w1:=((alloc_below (w.alloc (.cells #[.int .i64 0,.string ⟨#[]⟩,.string ⟨#[]⟩,.slice none 0 0] 54)) (.cells #[.int .i64 0,.string ⟨#[]⟩,.string ⟨#[]⟩,.slice none 0 0] 54)).mono (by simp)).trans (hb1.mono (by simp))
  have hX1:Below ((w.alloc (.cells #[.int .i64 0,.string ⟨#[]⟩,.string ⟨#[]⟩,.slice none 0 0] 54)).heap.size+1) ((w.alloc (.cells #[.int .i64 0,.string ⟨#[]⟩,.string ⟨#[]⟩,.slice none 0 0] 54)).alloc (.cells #[.int .i64 0,.string ⟨#[]⟩,.string ⟨#[]⟩,.slice none 0 0] 54)) w1:=hb1.mono (by simp)
  obtain ⟨r0,r1,r2,r3,rf,hz1,hbw1⟩:=res4 hB1
  obtain ⟨x0,x1,x2,x3,xf,hxz,_⟩:=res4 hX1
  simp only [World.size_alloc] at x0 x1 x2 x3 xf hxz
  obtain ⟨be,hbe⟩:∃ be,be=w.heap.size+1:=⟨_,rfl⟩
  rw [← hbe] at x0 x1 x2 x3 xf hxz ⊢
  have hlt:w.heap.size<be:=by omega
  have hle:w.heap.size+1≤be:=by omega
  have hn1:¬ w.heap.size=be:=by omega
  have hn2:¬ be=w.heap.size:=by omega
  have hv1:=hv.keep hbw1
  clear hbe hX1 ho1 hb1
  obtain ⟨b1,o1,e1,_,h0⟩:=hat 0 (by simp)
  obtain ⟨b2,o2,e2,_,h1⟩:=hat 1 (by simp)
  rw [e1] at e2
  simp only [Option.some.injEq,Addr.mk.injEq,and_true] at e2
  obtain ⟨rfl,rfl⟩:=e2
  obtain ⟨b2,o2,e2,_,h2⟩:=hat 2 (by simp)
  rw [e1] at e2
  simp only [Option.some.injEq,Addr.mk.injEq,and_true] at e2
  obtain ⟨rfl,rfl⟩:=e2
  subst e1
  simp only [List.length_cons,List.length_nil,Nat.zero_add,Nat.reduceAdd] at hc1 ⊢
  simp only [List.getElem_cons_zero,List.getElem_cons_succ,Nat.zero_mul,Nat.add_zero,Nat.one_mul,Nat.mul_one] at h0
  simp only [List.getElem_cons_zero,List.getElem_cons_succ,Nat.zero_mul,Nat.add_zero,Nat.one_mul,Nat.mul_one] at h1
  simp only [List.getElem_cons_zero,List.getElem_cons_succ,Nat.zero_mul,Nat.add_zero,Nat.one_mul,Nat.mul_one] at h2
  clear hat
  rw [show bytesOf lName=(⟨#[110,97,109,101]⟩:ByteArray) from rfl] at h0
  rw [hX] at h1
  rw [hY] at h2
  clear hX hY
  go_wp2_with fail
  go_region
  go_wp2_with fail
  have y0:World.cell? (((((w1.setCell ⟨be,0,none⟩ (.int .i64 3)).setCell ⟨be,1,none⟩ (.string X)).setCell ⟨be,2,none⟩ (.string Y)).setCell ⟨be,3,none⟩ (.slice none 0 0)).drew) ⟨be,0,none⟩=some (.int .i64 3):=by go_simp
  have y1:World.cell? (((((w1.setCell ⟨be,0,none⟩ (.int .i64 3)).setCell ⟨be,1,none⟩ (.string X)).setCell ⟨be,2,none⟩ (.string Y)).setCell ⟨be,3,none⟩ (.slice none 0 0)).drew) ⟨be,1,none⟩=some (.string X):=by go_simp
  have y2:World.cell? (((((w1.setCell ⟨be,0,none⟩ (.int .i64 3)).setCell ⟨be,1,none⟩ (.string X)).setCell ⟨be,2,none⟩ (.string Y)).setCell ⟨be,3,none⟩ (.slice none 0 0)).drew) ⟨be,2,none⟩=some (.string Y):=by go_simp
  have y3:World.cell? (((((w1.setCell ⟨be,0,none⟩ (.int .i64 3)).setCell ⟨be,1,none⟩ (.string X)).setCell ⟨be,2,none⟩ (.string Y)).setCell ⟨be,3,none⟩ (.slice none 0 0)).drew) ⟨be,3,none⟩=some (.slice none 0 0):=by go_simp
  have hBW:Below (w.heap.size+1) (w.alloc (.cells #[.int .i64 0,.string ⟨#[]⟩,.string ⟨#[]⟩,.slice none 0 0] 54)) (((((w1.setCell ⟨be,0,none⟩ (.int .i64 3)).setCell ⟨be,1,none⟩ (.string X)).setCell ⟨be,2,none⟩ (.string Y)).setCell ⟨be,3,none⟩ (.slice none 0 0)).drew):=((((hB1.setCell hle _).setCell hle _).setCell hle _).setCell hle _).drew
  have hoO:NdsOwn (((((w1.setCell ⟨be,0,none⟩ (.int .i64 3)).setCell ⟨be,1,none⟩ (.string X)).setCell ⟨be,2,none⟩ (.string Y)).setCell ⟨be,3,none⟩ (.slice none 0 0)).drew) w1.heap.size (.slice none 0 0) []:=nds_none _ _
  generalize ((((w1.setCell ⟨be,0,none⟩ (.int .i64 3)).setCell ⟨be,1,none⟩ (.string X)).setCell ⟨be,2,none⟩ (.string Y)).setCell ⟨be,3,none⟩ (.slice none 0 0)).drew=W at y0 y1 y2 y3 hBW hoO ⊢
  have hoW:=hoO.at
  have hl2:w.heap.size<w1.heap.size:=hz1
  clear x0 x1 x2 x3 xf r0 r1 r2 r3 rf hz1 hbw1 hv1 hB1
  obtain ⟨q0,q1,q2,q3,qf,hz1,hbw1⟩:=res4 hBW
  have hyz:be<W.heap.size:=cell_lt y0
  have hvW:=hv.keep hbw1
  cases hap:applyE L (⟨3,X,Y,[]⟩:En) with
  | none =>
   have HO:Hid (o=none):=(show _=_ by rw [← ho];exact check_no hap)
   have HA:=Lib.hid hap
   clear hap ho
   refine (specApply_any _ _ L (⟨3,X,Y,[]⟩:En) _ hvW hLn hLo hoW hee).mono ?_
   rintro e5 w5 ⟨v5,rfl,ho5,hb5⟩
   rw [HA.out]
   simp only [Option.isSome_none]
   have hB5:=hBW.trans (hb5.mono (by omega))
   clear q0 q1 q2 q3 qf hz1 hbw1
   obtain ⟨r0,r1,r2,r3,rf,hz1,hbw1⟩:=res4 hB5
   go_wp2
   refine bodyPost_ret (v:=.tuple #[.agg #[.int .i64 0,.string ⟨#[]⟩,.string ⟨#[]⟩,.slice none 0 0],.bool false]) (by simp [results,Tryz.results92,go_sem,r0,r1,r2,r3,rf,hz1]) rfl ?_
   rw [HO.out]
   refine entP_none ?_
   (repeat (first|(with_reducible refine Below.alloc ?_ ?_ _;rotate_left;(first|omega|(simp;done)|(simp;omega)))|(with_reducible refine Below.setCell ?_ ?_ _;rotate_left;(first|exact Nat.le_refl _|(simp;done)|(simp;omega)))|(with_reducible refine Below.drew ?_)));exact hbw1
  | some R =>
   have HA:=Lib.hid hap
   have HK:Hid (o=if txtE (⟨3,X,Y,[]⟩:En)=s then some (⟨3,X,Y,[]⟩:En) else none):=(show _=_ by rw [← ho];simp [checkE,hap])
   clear ho
   refine (specApply_any _ _ L (⟨3,X,Y,[]⟩:En) _ hvW hLn hLo hoW hee).mono ?_
   rintro e5 w5 ⟨v5,rfl,ho5,hb5⟩
   rw [HA.out]
   simp only [Option.isSome_some]
   have hB5:=hBW.trans (hb5.mono (by omega))
   have z0:=cell_keep hb5 y0
   have z1:=cell_keep hb5 y1
   have z2:=cell_keep hb5 y2
   have z3:=cell_keep hb5 y3
   have ho5b:=hoO.keep hb5
   have hz5:be<w5.heap.size:=cell_lt z0
   clear ho5 hap y0 y1 y2 y3 q0 q1 q2 q3 qf hz1 hbw1
   go_wp2_with fail
   refine (joText_any numOk _ L R (⟨3,X,Y,[]⟩:En) _ ho5b.at hee HA.out).mono ?_
   rintro e6 w6 ⟨rfl,hb6⟩
   have hB6:=hB5.trans (hb6.mono (by have:=hB5.size;simp at this;omega))
   have y0:=cell_keep hb6 z0
   have y1:=cell_keep hb6 z1
   have y2:=cell_keep hb6 z2
   have y3:=cell_keep hb6 z3
   have ho6:=ho5b.keep hb6
   obtain ⟨r0,r1,r2,r3,rf,hz1,hbw1⟩:=res4 hB6
   have hz6:be<w6.heap.size:=cell_lt y0
   clear z0 z1 z2 z3
   obtain ⟨tx,htx⟩:∃ tx,txtE (⟨3,X,Y,[]⟩:En)=tx:=⟨_,rfl⟩
   rw [htx] at HK ⊢
   by_cases hts:tx=s
   ·subst hts
    have HO:Hid (o=some (⟨3,X,Y,[]⟩:En)):=(show _=_ by rw [HK.out,if_pos rfl])
    clear HK
    go_wp2
    refine bodyPost_ret (v:=.tuple #[.agg #[.int .i64 3,.string X,.string Y,.slice none 0 0],.bool true]) (by simp [results,Tryz.results92,go_sem,r0,r1,r2,r3,rf,hz1]) rfl ?_
    rw [HO.out]
    refine ⟨_,rfl,?_,?_⟩
    ·exact NdsOwn.mono (B:=w1.heap.size) (by omega) ((((ho6.setLow (a:=⟨w.heap.size,0,none⟩) hl2 _).setLow (a:=⟨w.heap.size,1,none⟩) hl2 _).setLow (a:=⟨w.heap.size,2,none⟩) hl2 _).setLow (a:=⟨w.heap.size,3,none⟩) hl2 _)
    ·(repeat (first|(with_reducible refine Below.alloc ?_ ?_ _;rotate_left;(first|omega|(simp;done)|(simp;omega)))|(with_reducible refine Below.setCell ?_ ?_ _;rotate_left;(first|exact Nat.le_refl _|(simp;done)|(simp;omega)))|(with_reducible refine Below.drew ?_)));exact hbw1
   ·have HO:Hid (o=none):=(show _=_ by rw [HK.out,if_neg hts])
    have g1:=str_ne hts
    clear HK hts
    go_wp2
    refine bodyPost_ret (v:=.tuple #[.agg #[.int .i64 0,.string ⟨#[]⟩,.string ⟨#[]⟩,.slice none 0 0],.bool false]) (by simp [results,Tryz.results92,go_sem,r0,r1,r2,r3,rf,hz1]) rfl ?_
    rw [HO.out]
    refine entP_none ?_
    (repeat (first|(with_reducible refine Below.alloc ?_ ?_ _;rotate_left;(first|omega|(simp;done)|(simp;omega)))|(with_reducible refine Below.setCell ?_ ?_ _;rotate_left;(first|exact Nat.le_refl _|(simp;done)|(simp;omega)))|(with_reducible refine Below.drew ?_)));exact hbw1
end Go.Proofs.YtldhpaflmnlcaaaGreatDoor
