/-
  WriteEntry, the program's and the reference's. Own work.
-/
import Derived.Test.YtldhpaflmnlcaaaGreatDoorQDsk
import Derived.Test.YtldhpaflmnlcaaaGreatDoorQY
import Derived.Test.YtldhpaflmnlcaaaGreatDoorQX
set_option linter.all false
set_option maxRecDepth 100000
set_option maxHeartbeats 8000000
namespace Go.Proofs.YtldhpaflmnlcaaaGreatDoor
open Go.RowKit
def wrO (s t:ByteArray) (e:En):Option ByteArray :=
 if s.size+t.size≤60000 then
  (if (recL (s ++ t)).2.2=(s ++ t).size∧(recL (s ++ t)).2.1<60 then
   (match recO (recL (s ++ t)).1 e with
    | none=>none
    | some x=>if s.size+(t ++ x).size≤60000 then some (t ++ x) else none)
   else none)
 else none
def WrP (s:ByteArray) (o:Option ByteArray) (w:World) (r:Ending) (w':World):Prop :=
 r=.returned (.tuple #[.agg #[.string (if o.isSome then s else ⟨#[]⟩),.string (o.getD ⟨#[]⟩)],.bool o.isSome])∧Below w.heap.size w w'
structure DBox (w:World) (s t:ByteArray) (e:En) (ve:Value) (be:Nat) (W:World):Prop where
 d0:W.cell? ⟨w.heap.size,0,none⟩=some (.string s)
 d1:W.cell? ⟨w.heap.size,1,none⟩=some (.string t)
 e0:W.cell? ⟨be,0,none⟩=some (.int .i64 e.kind)
 e1:W.cell? ⟨be,1,none⟩=some (.string e.name)
 e2:W.cell? ⟨be,2,none⟩=some (.string e.to)
 e3:W.cell? ⟨be,3,none⟩=some ve
 lo:w.heap.size<be
 bel:Below w.heap.size w W
theorem DBox.keep {w:World} {s t:ByteArray} {e:En} {ve:Value} {be:Nat} {W W':World} (h:DBox w s t e ve be W) (hb:Below W.heap.size W W'):DBox w s t e ve be W' :=
 ⟨cell_keep hb h.d0,cell_keep hb h.d1,cell_keep hb h.e0,cell_keep hb h.e1,cell_keep hb h.e2,cell_keep hb h.e3,h.lo,h.bel.trans (hb.mono h.bel.size)⟩
theorem DBox.zs {w:World} {s t:ByteArray} {e:En} {ve:Value} {be:Nat} {W:World} (h:DBox w s t e ve be W):w.heap.size<W.heap.size∧be<W.heap.size∧¬ w.heap.size=be∧¬ be=w.heap.size:=by
 have:=cell_lt h.e0
 have:=h.lo
 omega
structure WBox (w:World) (s t:ByteArray) (e:En) (ve:Value) (be br:Nat) (W:World):Prop where
 d:DBox w s t e ve be W
 r0:W.cell? ⟨br,0,none⟩=some (.string ⟨#[]⟩)
 r1:W.cell? ⟨br,1,none⟩=some (.string ⟨#[]⟩)
 rf:∀ j,W.frozen? ⟨br,j,none⟩=false
 lr:be<br
theorem WBox.keep {w:World} {s t:ByteArray} {e:En} {ve:Value} {be br:Nat} {W W':World} (h:WBox w s t e ve be br W) (hb:Below W.heap.size W W'):WBox w s t e ve be br W' :=
 ⟨h.d.keep hb,cell_keep hb h.r0,cell_keep hb h.r1,fun j=>(hb.frozen (p:=⟨br,j,none⟩) (cell_lt h.r0)).trans (h.rf j),h.lr⟩
theorem WBox.zs {w:World} {s t:ByteArray} {e:En} {ve:Value} {be br:Nat} {W:World} (h:WBox w s t e ve be br W):br<W.heap.size∧¬ w.heap.size=br∧¬ be=br∧¬ br=w.heap.size∧¬ br=be:=by
 have:=cell_lt h.r0
 have:=h.d.lo
 have:=h.lr
 omega
theorem wbox_start {w W:World} {s t:ByteArray} {e:En} {ve:Value} (hb:Below (w.heap.size+1+1+1) (((w.alloc (.cells #[.string s,.string t] 74)).alloc (.cells #[.int .i64 e.kind,.string e.name,.string e.to,ve] 54)).alloc (.cells #[.string ⟨#[]⟩,.string ⟨#[]⟩] 74)) W):WBox w s t e ve (w.heap.size+1) (w.heap.size+1+1) W:=by
 have h:WBox w s t e ve (w.heap.size+1) (w.heap.size+1+1) (((w.alloc (.cells #[.string s,.string t] 74)).alloc (.cells #[.int .i64 e.kind,.string e.name,.string e.to,ve] 54)).alloc (.cells #[.string ⟨#[]⟩,.string ⟨#[]⟩] 74)):=by
  refine ⟨⟨?_,?_,?_,?_,?_,?_,by omega,((alloc_below _ _).alloc (by simp) _).alloc (by simp;omega) _⟩,?_,?_,fun j=>?_,by omega⟩ <;> go_simp
 exact h.keep (hb.mono (by simp))
theorem recO_size {L:List Df} {e:En} {x:ByteArray} (he:EnOk e) (h:recO L e=some x):x.size≤4194320:=by
 cases ha:applyE L e with
 | none=>rw [recO,textO_none ha] at h;cases h
 | some R =>
  rw [recO,textO_some ha] at h
  obtain rfl:=Option.some.inj h
  have h1:=txt_size he ha
  have h2:=recT_size (txtE e)
  omega
theorem implWrite_any (s t:ByteArray) (ve:Value) (e:En) (w:World) (ht:CutTab w) (hp:PowTab w) (hs:s.size≤1048576) (hs2:t.size≤1048576) (hve:NdsAt w ve e.body) (hee:EnOk e) :
  Calls Tryz.prog 63 #[.agg #[.string s,.string t],.agg #[.int .i64 e.kind,.string e.name,.string e.to,ve]] w (WrP s (wrO s t e) w):=by
 obtain ⟨ab,cb,rfl⟩:=hve.slice
 have hz:=bsize s t
 have hgd:=(recL_parts (s ++ t)).1
 have hkz:=(recL_parts (s ++ t)).2.2
 have hwr:wrO s t e=wrO s t e:=rfl
 conv at hwr=>rhs;unfold wrO
 have hrc:=fun (h:s.size+t.size≤60000) (w1:World) (h1:CutTab w1) (h2:PowTab w1)=>recovered_any (s ++ t) w1 h1 h2 (by omega)
 obtain ⟨R,hR⟩:∃ R,recL (s ++ t)=R:=⟨_,rfl⟩
 rw [hR] at hrc hgd hkz hwr
 obtain ⟨L,n,k⟩:=R
 simp only at hrc hgd hkz hwr
 obtain ⟨o,ho⟩:∃ o,wrO s t e=o:=⟨_,rfl⟩
 rw [ho] at hwr ⊢
 obtain ⟨hLo,hLn⟩:=goodLib_okP hgd
 have HW:=Lib.hid hwr
 have HC:=Lib.hid hrc
 have hlim:¬ 9223372036854775807<s.size+t.size:=by omega
 clear hR hrc hwr ho hgd
 go_enter Tryz.func63,Tryz.ntmps63
 go_wp2_with fail
 refine (isDisk_any s t _ (by omega) (by omega)).mono ?_
 rintro r w1 ⟨rfl,hb1⟩
 have hx:=wbox_start (hb1.mono (by simp))
 obtain ⟨be,hbe⟩:∃ be,be=w.heap.size+1:=⟨_,rfl⟩
 obtain ⟨br,hbr⟩:∃ br,br=w.heap.size+1+1:=⟨_,rfl⟩
 rw [← hbr,← hbe] at hx ⊢
 clear hbe hbr
 by_cases h6:s.size+t.size≤60000
 ·rw [show decide (s.size+t.size≤60000)=true by simpa using h6]
  obtain ⟨⟨d0,d1,e0,e1,e2,e3,lo,bel⟩,r0,r1,rf,lr⟩:=id hx
  obtain ⟨z0,z1,z3,z6⟩:=hx.d.zs
  obtain ⟨z2,z4,z5,z7,z8⟩:=hx.zs
  go_wp2_with fail
  refine (HC.out h6 _ (ht.keep bel) (hp.keep bel)).mono ?_
  rintro r w2 ⟨v2,rfl,ho2,hb2⟩
  simp only at ho2 ⊢
  obtain ⟨a2,c2,rfl,_,_⟩:=id ho2.at
  have hx2:=hx.keep hb2
  have hat2:=ho2.at
  clear d0 d1 e0 e1 e2 e3 lo lr r0 r1 rf bel z0 z1 z2 z3 z4 z5 z6 z7 z8 ho2 hb2 hb1 hx
  obtain ⟨⟨d0,d1,e0,e1,e2,e3,lo,bel⟩,r0,r1,rf,lr⟩:=id hx2
  obtain ⟨z0,z1,z3,z6⟩:=hx2.d.zs
  obtain ⟨z2,z4,z5,z7,z8⟩:=hx2.zs
  by_cases hk:k=(s ++ t).size
  ·by_cases hn:n<60
   ·have hkn:((k:Int) != (s.size:Int)+(t.size:Int))=false:=by simp;omega
    have hn1:(n:Int)<60:=by omega
    have hn2:¬ (60:Int)≤n:=by omega
    have HR:=Lib.hid (And.intro hk hn)
    clear hk hn
    go_wp2_with fail
    refine (implRec_any _ _ L e _ (hp.keep (bel.alloc bel.size _)) (hat2.keep (alloc_below _ _)) hLn hLo (hve.keep (bel.alloc bel.size _)) hee).mono ?_
    rintro r w4 ⟨rfl,hb4⟩
    have hx4:=(hx2.keep (alloc_below _ _)).keep hb4
    clear d0 d1 e0 e1 e2 e3 lo lr r0 r1 rf bel z0 z1 z2 z3 z4 z5 z6 z7 z8 hx2
    obtain ⟨⟨d0,d1,e0,e1,e2,e3,lo,bel⟩,r0,r1,rf,lr⟩:=id hx4
    obtain ⟨z0,z1,z3,z6⟩:=hx4.d.zs
    obtain ⟨z2,z4,z5,z7,z8⟩:=hx4.zs
    cases hrec:recO L e with
    | none =>
     have hO:o=none:=by rw [HW.out,if_pos h6,if_pos HR.out,hrec]
     subst hO
     simp only [Option.isSome_none,Option.getD_none]
     clear hrec
     go_wp2
     refine bodyPost_ret (v:=.tuple #[.agg #[.string ⟨#[]⟩,.string ⟨#[]⟩],.bool false]) (by simp [results,Tryz.results63,go_sem,r0,r1,rf,z2]) rfl ⟨rfl,?_⟩
     (repeat (first|(with_reducible refine Below.alloc ?_ ?_ _;rotate_left;(first|omega|(simp;done)|(simp;omega)))|(with_reducible refine Below.setCell ?_ ?_ _;rotate_left;(first|exact Nat.le_refl _|(simp;done)|(simp;omega)))|(with_reducible refine Below.drew ?_)));exact bel
    | some x =>
     have hxz:=recO_size hee hrec
     have hz2:=bsize t x
     have hlim2:¬ 9223372036854775807<t.size+x.size:=by omega
     have hOx:o=if s.size+(t ++ x).size≤60000 then some (t ++ x) else none:=by rw [HW.out,if_pos h6,if_pos HR.out,hrec]
     have HOX:=Lib.hid hOx
     clear hOx
     simp only [Option.isSome_some,Option.getD_some]
     clear hrec
     go_wp2_with fail
     refine (isDisk_any s (t ++ x) _ (by omega) (by omega)).mono ?_
     rintro r w5 ⟨rfl,hb5⟩
     obtain ⟨q0,q1,qf,qz,hq⟩:=box2 (w:=w4) (hb5.mono (by simp))
     have hx5:=hx4.keep hq
     obtain ⟨bo,hbo⟩:∃ bo,bo=w4.heap.size:=⟨_,rfl⟩
     rw [← hbo] at q0 q1 qz ⊢
     have hro:¬ br=bo:=by omega
     clear d0 d1 e0 e1 e2 e3 lo lr r0 r1 rf bel z0 z1 z2 z3 z4 z5 z6 z7 z8 hx4 hbo qf
     obtain ⟨⟨d0,d1,e0,e1,e2,e3,lo,bel⟩,r0,r1,rf,lr⟩:=id hx5
     obtain ⟨z0,z1,z3,z6⟩:=hx5.d.zs
     obtain ⟨z2,z4,z5,z7,z8⟩:=hx5.zs
     by_cases h7:s.size+(t ++ x).size≤60000
     ·rw [show decide (s.size+(t ++ x).size≤60000)=true by simpa using h7]
      have hOx:=HOX.out
      rw [if_pos h7] at hOx
      subst hOx
      go_wp2
      refine bodyPost_ret (v:=.tuple #[.agg #[.string s,.string (t ++ x)],.bool true]) (by simp [results,Tryz.results63,go_sem,r0,r1,rf,z2]) rfl ⟨rfl,?_⟩
      (repeat (first|(with_reducible refine Below.alloc ?_ ?_ _;rotate_left;(first|omega|(simp;done)|(simp;omega)))|(with_reducible refine Below.setCell ?_ ?_ _;rotate_left;(first|exact Nat.le_refl _|(simp;done)|(simp;omega)))|(with_reducible refine Below.drew ?_)));exact bel
     ·rw [show decide (s.size+(t ++ x).size≤60000)=false by simpa using h7]
      have hOx:=HOX.out
      rw [if_neg h7] at hOx
      subst hOx
      go_wp2
      refine bodyPost_ret (v:=.tuple #[.agg #[.string ⟨#[]⟩,.string ⟨#[]⟩],.bool false]) (by simp [results,Tryz.results63,go_sem,r0,r1,rf,z2]) rfl ⟨rfl,?_⟩
      (repeat (first|(with_reducible refine Below.alloc ?_ ?_ _;rotate_left;(first|omega|(simp;done)|(simp;omega)))|(with_reducible refine Below.setCell ?_ ?_ _;rotate_left;(first|exact Nat.le_refl _|(simp;done)|(simp;omega)))|(with_reducible refine Below.drew ?_)));exact bel
   ·have hkn:((k:Int) != (s.size:Int)+(t.size:Int))=false:=by simp;omega
    have hn1:¬ (n:Int)<60:=by omega
    have hn2:(60:Int)≤n:=by omega
    have hO:o=none:=by rw [HW.out,if_pos h6,if_neg (fun h=>hn h.2)]
    subst hO
    clear hk hn
    go_wp2
    refine bodyPost_ret (v:=.tuple #[.agg #[.string ⟨#[]⟩,.string ⟨#[]⟩],.bool false]) (by simp [results,Tryz.results63,go_sem,r0,r1,rf,z2]) rfl ⟨rfl,?_⟩
    (repeat (first|(with_reducible refine Below.alloc ?_ ?_ _;rotate_left;(first|omega|(simp;done)|(simp;omega)))|(with_reducible refine Below.setCell ?_ ?_ _;rotate_left;(first|exact Nat.le_refl _|(simp;done)|(simp;omega)))|(with_reducible refine Below.drew ?_)));exact bel
  ·have hkn:((k:Int) != (s.size:Int)+(t.size:Int))=true:=by simp;omega
   have hO:o=none:=by rw [HW.out,if_pos h6,if_neg (fun h=>hk h.1)]
   subst hO
   clear hk
   go_wp2
   refine bodyPost_ret (v:=.tuple #[.agg #[.string ⟨#[]⟩,.string ⟨#[]⟩],.bool false]) (by simp [results,Tryz.results63,go_sem,r0,r1,rf,z2]) rfl ⟨rfl,?_⟩
   (repeat (first|(with_reducible refine Below.alloc ?_ ?_ _;rotate_left;(first|omega|(simp;done)|(simp;omega)))|(with_reducible refine Below.setCell ?_ ?_ _;rotate_left;(first|exact Nat.le_refl _|(simp;done)|(simp;omega)))|(with_reducible refine Below.drew ?_)));exact bel
 ·rw [show decide (s.size+t.size≤60000)=false by simpa using h6]
  have hO:o=none:=by rw [HW.out,if_neg h6]
  subst hO
  obtain ⟨⟨d0,d1,e0,e1,e2,e3,lo,bel⟩,r0,r1,rf,lr⟩:=id hx
  obtain ⟨z0,z1,z3,z6⟩:=hx.d.zs
  obtain ⟨z2,z4,z5,z7,z8⟩:=hx.zs
  go_wp2
  refine bodyPost_ret (v:=.tuple #[.agg #[.string ⟨#[]⟩,.string ⟨#[]⟩],.bool false]) (by simp [results,Tryz.results63,go_sem,r0,r1,rf,z2]) rfl ⟨rfl,?_⟩
  (repeat (first|(with_reducible refine Below.alloc ?_ ?_ _;rotate_left;(first|omega|(simp;done)|(simp;omega)))|(with_reducible refine Below.setCell ?_ ?_ _;rotate_left;(first|exact Nat.le_refl _|(simp;done)|(simp;omega)))|(with_reducible refine Below.drew ?_)));exact bel
theorem specWrite_any (s t:ByteArray) (ve:Value) (e:En) (w:World) (hs:s.size≤1048576) (hs2:t.size≤1048576) (hve:NdsAt w ve e.body) (hee:EnOk e) :
  Calls Tryz.prog 62 #[.agg #[.string s,.string t],.agg #[.int .i64 e.kind,.string e.name,.string e.to,ve]] w (WrP s (wrO s t e) w):=by
 obtain ⟨ab,cb,rfl⟩:=hve.slice
 have hz:=bsize s t
 have hgd:=(recL_parts (s ++ t)).1
 have hkz:=(recL_parts (s ++ t)).2.2
 have hwr:wrO s t e=wrO s t e:=rfl
 conv at hwr=>rhs;unfold wrO
 have hrc:=fun (h:s.size+t.size≤60000) (w1:World)=>joRecover_any (s ++ t) w1 (by omega)
 obtain ⟨R,hR⟩:∃ R,recL (s ++ t)=R:=⟨_,rfl⟩
 rw [hR] at hrc hgd hkz hwr
 obtain ⟨L,n,k⟩:=R
 simp only at hrc hgd hkz hwr
 obtain ⟨o,ho⟩:∃ o,wrO s t e=o:=⟨_,rfl⟩
 rw [ho] at hwr ⊢
 obtain ⟨hLo,hLn⟩:=goodLib_okP hgd
 have HW:=Lib.hid hwr
 have HC:=Lib.hid hrc
 have hlim:¬ 9223372036854775807<s.size+t.size:=by omega
 clear hR hrc hwr ho hgd
 go_enter Tryz.func62,Tryz.ntmps62
 go_wp2_with fail
 refine (joValid_any s t _ (by omega) (by omega)).mono ?_
 rintro r w1 ⟨rfl,hb1⟩
 have hx:=wbox_start (hb1.mono (by simp))
 obtain ⟨be,hbe⟩:∃ be,be=w.heap.size+1:=⟨_,rfl⟩
 obtain ⟨br,hbr⟩:∃ br,br=w.heap.size+1+1:=⟨_,rfl⟩
 rw [← hbr,← hbe] at hx ⊢
 clear hbe hbr
 by_cases h6:s.size+t.size≤60000
 ·rw [show decide (s.size+t.size≤60000)=true by simpa using h6]
  obtain ⟨⟨d0,d1,e0,e1,e2,e3,lo,bel⟩,r0,r1,rf,lr⟩:=id hx
  obtain ⟨z0,z1,z3,z6⟩:=hx.d.zs
  obtain ⟨z2,z4,z5,z7,z8⟩:=hx.zs
  go_wp2_with fail
  refine (HC.out h6 _).mono ?_
  rintro r w2 ⟨v2,rfl,ho2,hb2⟩
  simp only at ho2 ⊢
  obtain ⟨a2,c2,rfl,_,_⟩:=id ho2.at
  have hx2:=hx.keep hb2
  have hat2:=ho2.at
  clear d0 d1 e0 e1 e2 e3 lo lr r0 r1 rf bel z0 z1 z2 z3 z4 z5 z6 z7 z8 ho2 hb2 hb1 hx
  obtain ⟨⟨d0,d1,e0,e1,e2,e3,lo,bel⟩,r0,r1,rf,lr⟩:=id hx2
  obtain ⟨z0,z1,z3,z6⟩:=hx2.d.zs
  obtain ⟨z2,z4,z5,z7,z8⟩:=hx2.zs
  by_cases hk:k=(s ++ t).size
  ·by_cases hn:n<60
   ·have hkn:¬ (k:Int)<(s.size:Int)+(t.size:Int):=by omega
    have e1:IntKind.i64.wrap ((s.size:Int)+(t.size:Int))=(s.size:Int)+(t.size:Int):=IntWalk.i64_in _ (by omega)
    have hn1:(n:Int)<60:=by omega
    have hn2:¬ (60:Int)≤n:=by omega
    have HR:=Lib.hid (And.intro hk hn)
    clear hk hn
    go_wp2_with fail
    refine (specApply_any _ _ L e _ (hat2.keep (alloc_below _ _)) hLn hLo (hve.keep (bel.alloc bel.size _)) hee).mono ?_
    rintro r w4 ⟨v4,rfl,ho4,hb4⟩
    obtain ⟨a4,c4,rfl⟩:∃ a c,v4=.slice a ((applyE L e).getD []).length c:=by obtain ⟨a,c,q,_⟩:=ho4.at;exact ⟨a,c,q⟩
    have hx4:=(hx2.keep (alloc_below _ _)).keep hb4
    clear d0 d1 e0 e1 e2 e3 lo lr r0 r1 rf bel z0 z1 z2 z3 z4 z5 z6 z7 z8 hx2
    obtain ⟨⟨d0,d1,e0,e1,e2,e3,lo,bel⟩,r0,r1,rf,lr⟩:=id hx4
    obtain ⟨z0,z1,z3,z6⟩:=hx4.d.zs
    obtain ⟨z2,z4,z5,z7,z8⟩:=hx4.zs
    clear ho4
    have hy4:=hve.keep bel
    cases hap:applyE L e with
    | none =>
     have hO:o=none:=by rw [HW.out,if_pos h6,if_pos HR.out,recO,textO_none hap];rfl
     subst hO
     simp only [Option.isSome_none]
     clear hap
     go_wp2
     refine bodyPost_ret (v:=.tuple #[.agg #[.string ⟨#[]⟩,.string ⟨#[]⟩],.bool false]) (by simp [results,Tryz.results62,go_sem,r0,r1,rf,z2]) rfl ⟨rfl,?_⟩
     (repeat (first|(with_reducible refine Below.alloc ?_ ?_ _;rotate_left;(first|omega|(simp;done)|(simp;omega)))|(with_reducible refine Below.setCell ?_ ?_ _;rotate_left;(first|exact Nat.le_refl _|(simp;done)|(simp;omega)))|(with_reducible refine Below.drew ?_)));exact bel
    | some R =>
     have hrec:recO L e=some (recT (txtE e)):=by rw [recO,textO_some hap];rfl
     have htz:=txt_size hee hap
     have hxz:=recO_size hee hrec
     obtain ⟨x,hxx⟩:∃ x,recT (txtE e)=x:=⟨_,rfl⟩
     rw [hxx] at hrec hxz
     have hz2:=bsize t x
     have hlim2:¬ 9223372036854775807<t.size+x.size:=by omega
     have hOx:o=if s.size+(t ++ x).size≤60000 then some (t ++ x) else none:=by rw [HW.out,if_pos h6,if_pos HR.out,hrec]
     have HOX:=Lib.hid hOx
     clear hOx
     have HAP:=Lib.hid hap
     simp only [Option.isSome_some]
     clear hrec hap
     go_wp2_with fail
     have up4:∀ {w':World},Exc NoT w4.drew w' → Below w4.heap.size w4 w':=fun h=>(Below.refl w4.heap.size w4).drew.trans (h.toBelow.mono (by simp))
     refine region_acts (C:=Exc (NoT) _) 4 [0,1,2,3,4,5,6,7,8,9,10] (by kernel_rfl) (by kernel_rfl) (Exc.grows _ _) (Exc.refl _ _) ?_
     iterate 5 (apply x_st rfl rfl rfl;(focus intro u hc' hf';go_simp <;> rfl);intro K hK;go_simp;apply hK;clear hK K)
     refine x_call rfl rfl rfl (Exc.grows _ _) (Exc.refl _ _) 82 (fun K hK=>?_);apply Exists.intro;refine ⟨fun w' hw'=>?_,fun wa hwa hbwa=>?_⟩;(focus go_simp;rfl);refine (joText_any numOk _ L R e _ (hy4.keep (up4 hwa)) hee HAP.out).mono ?_;rintro e w5 ⟨rfl,hb5⟩;refine ⟨_,rfl,hb5,fun hx=>?_⟩;go_simp;apply hK;clear hK K
     refine x_call rfl rfl rfl (Exc.grows _ _) (hx) 89 (fun K hK=>?_);apply Exists.intro;refine ⟨fun w' hw'=>?_,fun wb hwb hbwb=>?_⟩;(focus go_simp;rfl);refine (joRecord_any (txtE e) _ htz).mono ?_;rintro e w6 ⟨rfl,hb6⟩;refine ⟨_,rfl,hb6,fun hx=>?_⟩;go_simp;apply hK;clear hK K
     try rw [hxx]
     iterate 2 (apply x_st rfl rfl rfl;(focus intro u hc' hf';go_simp <;> rfl);intro K hK;go_simp;apply hK;clear hK K)
     refine x_make rfl rfl rfl (Exc.grows _ _) hx (fun b=>.pointer (some ⟨b,0,none⟩)) (fun K hK=>?_)
     apply Exists.intro
     refine ⟨fun w' hw'=>?_,fun bo w7 hw7 hb7 hbo hNb hnb=>?_⟩
     ·go_simp
      rfl
     go_simp
     refine hK _ _ _ ?_
     clear hK K
     refine x_do rfl rfl rfl (Exc.grows _ _) hw7 (fun K hK=>?_)
     intro w8 hw8 hb8
     obtain ⟨m0,m1,m2⟩:=made_cell ((hb8.block bo (made_cell hbo).2.2).trans hbo)
     refine ⟨(w8.setCell ⟨bo,0,none⟩ (.string s)).setCell ⟨bo,1,none⟩ (.string (t ++ x)),?_,⟨exc_set (exc_set hw8 (.inl hNb) _) (.inl hNb) _,by simp,fun j _ hj _=>by rw [Below.heap_setCell _ _ _ _ (fun h=>hj (by simp [h])),Below.heap_setCell _ _ _ _ (fun h=>hj (by simp [h]))]⟩,?_⟩
     ·go_simp
     go_simp
     refine hK _ _ _ ?_
     clear hK K
     refine x_nil ?_
     have hbb:w4.heap.size≤bo:=by simpa using hNb
     generalize hW:(w8.setCell ⟨bo,0,none⟩ (.string s)).setCell ⟨bo,1,none⟩ (.string (t ++ x))=W
     have q0:W.cell? ⟨bo,0,none⟩=some (.string s):=by rw [← hW];clear hW;go_simp
     have q1:W.cell? ⟨bo,1,none⟩=some (.string (t ++ x)):=by rw [← hW];clear hW;go_simp
     have hx5:=hx4.keep (W':=W) (by rw [← hW];exact (((up4 hw8).setCell (by simpa using hbb) _).setCell (by simpa using hbb) _))
     have hro:¬ br=bo:=by omega
     clear d0 d1 e0 e1 e2 e3 lo lr r0 r1 rf bel z0 z1 z2 z3 z4 z5 z6 z7 z8 hx4 hW m0 m1 m2 hw8 hb8 hw7 hb7 hbo hNb hnb hx hb5 hb6 hwa hwb hbwa hbwb
     have qz:=cell_lt q0
     go_wp2_with fail
     refine (joValid_any s (t ++ x) _ (by omega) (by omega)).mono ?_
     rintro r w9 ⟨rfl,hb9⟩
     have p0:=cell_keep hb9 q0
     have p1:=cell_keep hb9 q1
     have pz:=cell_lt p0
     have hx9:=hx5.keep hb9
     clear q0 q1 qz
     obtain ⟨⟨d0,d1,e0,e1,e2,e3,lo,bel⟩,r0,r1,rf,lr⟩:=id hx9
     obtain ⟨z0,z1,z3,z6⟩:=hx9.d.zs
     obtain ⟨z2,z4,z5,z7,z8⟩:=hx9.zs
     by_cases h7:s.size+(t ++ x).size≤60000
     ·rw [show decide (s.size+(t ++ x).size≤60000)=true by simpa using h7]
      have hOx:=HOX.out
      rw [if_pos h7] at hOx
      subst hOx
      go_wp2
      refine bodyPost_ret (v:=.tuple #[.agg #[.string s,.string (t ++ x)],.bool true]) (by simp [results,Tryz.results62,go_sem,r0,r1,rf,z2]) rfl ⟨rfl,?_⟩
      (repeat (first|(with_reducible refine Below.alloc ?_ ?_ _;rotate_left;(first|omega|(simp;done)|(simp;omega)))|(with_reducible refine Below.setCell ?_ ?_ _;rotate_left;(first|exact Nat.le_refl _|(simp;done)|(simp;omega)))|(with_reducible refine Below.drew ?_)));exact bel
     ·rw [show decide (s.size+(t ++ x).size≤60000)=false by simpa using h7]
      have hOx:=HOX.out
      rw [if_neg h7] at hOx
      subst hOx
      go_wp2
      refine bodyPost_ret (v:=.tuple #[.agg #[.string ⟨#[]⟩,.string ⟨#[]⟩],.bool false]) (by simp [results,Tryz.results62,go_sem,r0,r1,rf,z2]) rfl ⟨rfl,?_⟩
      (repeat (first|(with_reducible refine Below.alloc ?_ ?_ _;rotate_left;(first|omega|(simp;done)|(simp;omega)))|(with_reducible refine Below.setCell ?_ ?_ _;rotate_left;(first|exact Nat.le_refl _|(simp;done)|(simp;omega)))|(with_reducible refine Below.drew ?_)));exact bel
   ·have hkn:¬ (k:Int)<(s.size:Int)+(t.size:Int):=by omega
    have e1:IntKind.i64.wrap ((s.size:Int)+(t.size:Int))=(s.size:Int)+(t.size:Int):=IntWalk.i64_in _ (by omega)
    have hn1:¬ (n:Int)<60:=by omega
    have hn2:(60:Int)≤n:=by omega
    have hO:o=none:=by rw [HW.out,if_pos h6,if_neg (fun h=>hn h.2)]
    subst hO
    clear hk hn
    go_wp2
    refine bodyPost_ret (v:=.tuple #[.agg #[.string ⟨#[]⟩,.string ⟨#[]⟩],.bool false]) (by simp [results,Tryz.results62,go_sem,r0,r1,rf,z2]) rfl ⟨rfl,?_⟩
    (repeat (first|(with_reducible refine Below.alloc ?_ ?_ _;rotate_left;(first|omega|(simp;done)|(simp;omega)))|(with_reducible refine Below.setCell ?_ ?_ _;rotate_left;(first|exact Nat.le_refl _|(simp;done)|(simp;omega)))|(with_reducible refine Below.drew ?_)));exact bel
  ·have hkn:(k:Int)<(s.size:Int)+(t.size:Int):=by omega
   have e1:IntKind.i64.wrap ((s.size:Int)+(t.size:Int))=(s.size:Int)+(t.size:Int):=IntWalk.i64_in _ (by omega)
   have hO:o=none:=by rw [HW.out,if_pos h6,if_neg (fun h=>hk h.1)]
   subst hO
   clear hk
   go_wp2
   refine bodyPost_ret (v:=.tuple #[.agg #[.string ⟨#[]⟩,.string ⟨#[]⟩],.bool false]) (by simp [results,Tryz.results62,go_sem,r0,r1,rf,z2]) rfl ⟨rfl,?_⟩
   (repeat (first|(with_reducible refine Below.alloc ?_ ?_ _;rotate_left;(first|omega|(simp;done)|(simp;omega)))|(with_reducible refine Below.setCell ?_ ?_ _;rotate_left;(first|exact Nat.le_refl _|(simp;done)|(simp;omega)))|(with_reducible refine Below.drew ?_)));exact bel
 ·rw [show decide (s.size+t.size≤60000)=false by simpa using h6]
  have hO:o=none:=by rw [HW.out,if_neg h6]
  subst hO
  obtain ⟨⟨d0,d1,e0,e1,e2,e3,lo,bel⟩,r0,r1,rf,lr⟩:=id hx
  obtain ⟨z0,z1,z3,z6⟩:=hx.d.zs
  obtain ⟨z2,z4,z5,z7,z8⟩:=hx.zs
  go_wp2
  refine bodyPost_ret (v:=.tuple #[.agg #[.string ⟨#[]⟩,.string ⟨#[]⟩],.bool false]) (by simp [results,Tryz.results62,go_sem,r0,r1,rf,z2]) rfl ⟨rfl,?_⟩
  (repeat (first|(with_reducible refine Below.alloc ?_ ?_ _;rotate_left;(first|omega|(simp;done)|(simp;omega)))|(with_reducible refine Below.setCell ?_ ?_ _;rotate_left;(first|exact Nat.le_refl _|(simp;done)|(simp;omega)))|(with_reducible refine Below.drew ?_)));exact bel
end Go.Proofs.YtldhpaflmnlcaaaGreatDoor
