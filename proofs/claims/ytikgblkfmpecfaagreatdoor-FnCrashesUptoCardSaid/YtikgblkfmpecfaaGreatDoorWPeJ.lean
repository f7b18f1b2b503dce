/-
  The program's ParseEntry, where one of the three words begins the text. By a program of my own (parPe.py).
-/
import Derived.Test.YtikgblkfmpecfaaGreatDoorWPE
set_option linter.all false
set_option maxRecDepth 100000
set_option maxHeartbeats 8000000
namespace Go.Proofs.YtikgblkfmpecfaaGreatDoor
open Go.RowKit
theorem ZP (v:Value) (L:List Df) (s X:ByteArray) (e:En) (ok:Bool) (o:Option En) (w:World) (hv:aG w v L) (hg:good L=true) (ht:dF w)  (hy:dA.data.toList.isPrefixOf s.data.toList=true) (hX:bytesOf (s.data.toList.drop dA.size)=X)
  (hpar:∀(v1:Value) (w1:World),aG w1 v1 L->dF w1->Calls Tryz.prog 115 #[v1,.string X] w1 (xU e.kind e.name e.to e.body ok w1)) (he:ok=true->dW e) (ho:(if ok=true then jh L s (some e)else none)=o) :
  Calls Tryz.prog 23 #[v,.string s] w (ny o w):=by
 obtain⟨a,cap,rfl⟩:∃a cap,v=.slice a L.length cap:=by obtain⟨a,cap,rfl,_⟩:=hv;exact⟨a,cap,rfl⟩
 obtain⟨hLo,hLn⟩:=mJ hg;have HG:=Lib.hid hg;have HY:=Lib.hid hy;have HX:=Lib.hid hX;have hix0:=λw=>(o8 w).1;have hix1:=λw=>(o8 w).2.1;have hix2:=λw=>(o8 w).2.2;simp only[qX,qY,qZ,fv]at hix0 hix1 hix2;clear hg hy hX;cases ok with
 | false =>
  have HE:Hid (o=none):=(show _=_ by rw[<-ho];simp)
  clear ho
  go_enter Tryz.func23,Tryz.ntmps23
  go_wp2_with (first|(go_at_call 46;refine(fJ _ L _ (hv.keep (aj _ _)) hLn hLo).mono ?_;rintro e1 w1⟨rfl,hb1⟩;rw[HG.out];have hB1:Below (w.heap.size+1) (w.alloc (.cells #[.int .i64 0,.string ⟨#[]⟩,.string ⟨#[]⟩,.slice none 0 0] 45)) w1:=hb1.mono (by simp))|(go_at_call 62;refine(nR _).mono ?_;rintro e2 w2⟨rfl,hb2⟩;have hz2:w.heap.size+1<=w2.heap.size:=(by have h1:=hB1.size;have h2:=hb2.size;simp at h1;omega);have hB2:Below (w.heap.size+1) (w.alloc (.cells #[.int .i64 0,.string ⟨#[]⟩,.string ⟨#[]⟩,.slice none 0 0] 45)) w2:=hB1.trans (hb2.mono (by have h1:=hB1.size;simpa using h1));have hv2:aG w2 (.slice a L.length cap) L:=hv.keep ((aj _ _).trans (hB2.mono (by omega)));have ht2:dF w2:=ht.keep ((aj _ _).trans (hB2.mono (by omega)));clear hB1 hb1 hb2))
  refine wp_loop_rounds 1 ?_
  rw[rounds_succ]
  go_wp2_with (first|(go_at_call 63;refine(sS (p:=dA) HY.out).mono ?_;rintro e8 w8⟨rfl,rfl⟩;rw[HX.out])|(go_at_call 115;have hA0:Below w2.heap.size w2 w2:=Below.refl _ _;have hA1:=hA0.alloc hA0.size (.cells #[.func (.func 109) #[] #[],.func (.func 110) #[] #[],.func (.func 113) #[] #[],.func (.func 115) #[] #[],.string dA] 105);refine(hpar _ _ (hv2.keep hA1) (ht2.keep hA1)).mono ?_;rintro e3 w3⟨v3,rfl,ho3,hb3⟩;obtain⟨a3,c3,rfl⟩:=ho3.slice;have hk3:=hA1.trans (hb3.mono hA1.size);have hB3:=hB2.trans (hk3.mono hz2);obtain⟨r0,r1,r2,r3,rf,hz1,aF⟩:=aY hB3;have hv3:=hv2.keep hk3;have hz3:=hk3.size;clear hb3 hA0 hA1))
  refine bodyPost_ret (v:=.tuple #[.agg #[.int .i64 0,.string ⟨#[]⟩,.string ⟨#[]⟩,.slice none 0 0],.bool false]) (by simp[results,Tryz.results23,go_sem,r0,r1,r2,r3,rf,hz1]) rfl ?_
  rw[HE.out]
  refine kK ?_
  (repeat(first|(with_reducible refine Below.alloc ?_ ?_ _;rotate_left;(first|omega|(simp;done)|(simp;omega)))|(with_reducible refine Below.setCell ?_ ?_ _;rotate_left;(first|exact Nat.le_refl _|(simp;done)|(simp;omega)))|(with_reducible refine Below.drew ?_)));exact aF
 | true =>
  have hee:=he rfl
  cases hx:lH L e with
  | none =>
   have HE:Hid (o=none):=(show _=_ by rw[<-ho,if_pos rfl];exact SH hx)
   have HT:=Lib.hid hx
   clear hx ho he
   go_enter Tryz.func23,Tryz.ntmps23
   go_wp2_with (first|(go_at_call 46;refine(fJ _ L _ (hv.keep (aj _ _)) hLn hLo).mono ?_;rintro e1 w1⟨rfl,hb1⟩;rw[HG.out];have hB1:Below (w.heap.size+1) (w.alloc (.cells #[.int .i64 0,.string ⟨#[]⟩,.string ⟨#[]⟩,.slice none 0 0] 45)) w1:=hb1.mono (by simp))|(go_at_call 62;refine(nR _).mono ?_;rintro e2 w2⟨rfl,hb2⟩;have hz2:w.heap.size+1<=w2.heap.size:=(by have h1:=hB1.size;have h2:=hb2.size;simp at h1;omega);have hB2:Below (w.heap.size+1) (w.alloc (.cells #[.int .i64 0,.string ⟨#[]⟩,.string ⟨#[]⟩,.slice none 0 0] 45)) w2:=hB1.trans (hb2.mono (by have h1:=hB1.size;simpa using h1));have hv2:aG w2 (.slice a L.length cap) L:=hv.keep ((aj _ _).trans (hB2.mono (by omega)));have ht2:dF w2:=ht.keep ((aj _ _).trans (hB2.mono (by omega)));clear hB1 hb1 hb2))
   refine wp_loop_rounds 1 ?_
   rw[rounds_succ]
   go_wp2_with (first|(go_at_call 63;refine(sS (p:=dA) HY.out).mono ?_;rintro e8 w8⟨rfl,rfl⟩;rw[HX.out])|(go_at_call 115;have hA0:Below w2.heap.size w2 w2:=Below.refl _ _;have hA1:=hA0.alloc hA0.size (.cells #[.func (.func 109) #[] #[],.func (.func 110) #[] #[],.func (.func 113) #[] #[],.func (.func 115) #[] #[],.string dA] 105);refine(hpar _ _ (hv2.keep hA1) (ht2.keep hA1)).mono ?_;rintro e3 w3⟨v3,rfl,ho3,hb3⟩;obtain⟨a3,c3,rfl⟩:=ho3.slice;have hk3:=hA1.trans (hb3.mono hA1.size);have hB3:=hB2.trans (hk3.mono hz2);obtain⟨r0,r1,r2,r3,rf,hz1,aF⟩:=aY hB3;have hv3:=hv2.keep hk3;have hz3:=hk3.size;clear hb3 hA0 hA1))
   refine(sG _ _ L e _ (hv3.keep (aj _ _)) hLn hLo (ho3.at.keep (aj _ _)) hee).mono ?_
   rintro e4 w4⟨rfl,hb4⟩
   rw[HT.out]
   have jk:Below (w3.heap.size+1) (w3.alloc (.cells #[.int .i64 e.kind,.string e.name,.string e.to,.slice a3 e.body.length c3] 45)) w4:=hb4.mono (by simp)
   have hB4:=hB3.trans (((aj w3 (.cells #[.int .i64 e.kind,.string e.name,.string e.to,.slice a3 e.body.length c3] 45)).trans (jk.mono (by omega))).mono (by omega))
   obtain⟨x0,x1,x2,x3,xz,hk4⟩:=kX jk
   clear r0 r1 r2 r3 rf hz1 aF
   obtain⟨r0,r1,r2,r3,rf,hz1,aF⟩:=aY hB4
   simp only[Option.isSome_none,Option.isSome_some,Option.getD_none,Option.getD_some]
   go_wp2
   refine bodyPost_ret (v:=.tuple #[.agg #[.int .i64 0,.string ⟨#[]⟩,.string ⟨#[]⟩,.slice none 0 0],.bool false]) (by simp[results,Tryz.results23,go_sem,r0,r1,r2,r3,rf,hz1]) rfl ?_
   rw[HE.out]
   refine kK ?_
   (repeat(first|(with_reducible refine Below.alloc ?_ ?_ _;rotate_left;(first|omega|(simp;done)|(simp;omega)))|(with_reducible refine Below.setCell ?_ ?_ _;rotate_left;(first|exact Nat.le_refl _|(simp;done)|(simp;omega)))|(with_reducible refine Below.drew ?_)));exact aF
  | some tx =>
   by_cases htx:tx=s
   ·subst htx
    have HE:Hid (o=some e):=(show _=_ by rw[<-ho,if_pos rfl];exact SI hx)
    have HT:=Lib.hid hx
    clear hx ho he
    go_enter Tryz.func23,Tryz.ntmps23
    go_wp2_with (first|(go_at_call 46;refine(fJ _ L _ (hv.keep (aj _ _)) hLn hLo).mono ?_;rintro e1 w1⟨rfl,hb1⟩;rw[HG.out];have hB1:Below (w.heap.size+1) (w.alloc (.cells #[.int .i64 0,.string ⟨#[]⟩,.string ⟨#[]⟩,.slice none 0 0] 45)) w1:=hb1.mono (by simp))|(go_at_call 62;refine(nR _).mono ?_;rintro e2 w2⟨rfl,hb2⟩;have hz2:w.heap.size+1<=w2.heap.size:=(by have h1:=hB1.size;have h2:=hb2.size;simp at h1;omega);have hB2:Below (w.heap.size+1) (w.alloc (.cells #[.int .i64 0,.string ⟨#[]⟩,.string ⟨#[]⟩,.slice none 0 0] 45)) w2:=hB1.trans (hb2.mono (by have h1:=hB1.size;simpa using h1));have hv2:aG w2 (.slice a L.length cap) L:=hv.keep ((aj _ _).trans (hB2.mono (by omega)));have ht2:dF w2:=ht.keep ((aj _ _).trans (hB2.mono (by omega)));clear hB1 hb1 hb2))
    refine wp_loop_rounds 1 ?_
    rw[rounds_succ]
    go_wp2_with (first|(go_at_call 63;refine(sS (p:=dA) HY.out).mono ?_;rintro e8 w8⟨rfl,rfl⟩;rw[HX.out])|(go_at_call 115;have hA0:Below w2.heap.size w2 w2:=Below.refl _ _;have hA1:=hA0.alloc hA0.size (.cells #[.func (.func 109) #[] #[],.func (.func 110) #[] #[],.func (.func 113) #[] #[],.func (.func 115) #[] #[],.string dA] 105);refine(hpar _ _ (hv2.keep hA1) (ht2.keep hA1)).mono ?_;rintro e3 w3⟨v3,rfl,ho3,hb3⟩;obtain⟨a3,c3,rfl⟩:=ho3.slice;have hk3:=hA1.trans (hb3.mono hA1.size);have hB3:=hB2.trans (hk3.mono hz2);obtain⟨r0,r1,r2,r3,rf,hz1,aF⟩:=aY hB3;have hv3:=hv2.keep hk3;have hz3:=hk3.size;clear hb3 hA0 hA1))
    refine(sG _ _ L e _ (hv3.keep (aj _ _)) hLn hLo (ho3.at.keep (aj _ _)) hee).mono ?_
    rintro e4 w4⟨rfl,hb4⟩
    rw[HT.out]
    have jk:Below (w3.heap.size+1) (w3.alloc (.cells #[.int .i64 e.kind,.string e.name,.string e.to,.slice a3 e.body.length c3] 45)) w4:=hb4.mono (by simp)
    have hB4:=hB3.trans (((aj w3 (.cells #[.int .i64 e.kind,.string e.name,.string e.to,.slice a3 e.body.length c3] 45)).trans (jk.mono (by omega))).mono (by omega))
    obtain⟨x0,x1,x2,x3,xz,hk4⟩:=kX jk
    clear r0 r1 r2 r3 rf hz1 aF
    obtain⟨r0,r1,r2,r3,rf,hz1,aF⟩:=aY hB4
    simp only[Option.isSome_none,Option.isSome_some,Option.getD_none,Option.getD_some]
    go_wp2
    refine bodyPost_ret (v:=.tuple #[.agg #[.int .i64 e.kind,.string e.name,.string e.to,.slice a3 e.body.length c3],.bool true]) (by simp[results,Tryz.results23,go_sem,r0,r1,r2,r3,rf,hz1]) rfl ?_
    rw[HE.out]
    refine⟨_,rfl,?_,?_⟩
    ·have bF:=(ho3.keep (aj _ _)).keep hb4
     exact au.mono (B:=w.heap.size+1) (by omega) (((((bF.mono (by simp;omega)).bY (a:=⟨w.heap.size,0,none⟩) (by simp) _).bY (a:=⟨w.heap.size,1,none⟩) (by simp) _).bY (a:=⟨w.heap.size,2,none⟩) (by simp) _).bY (a:=⟨w.heap.size,3,none⟩) (by simp) _)
    ·(repeat(first|(with_reducible refine Below.alloc ?_ ?_ _;rotate_left;(first|omega|(simp;done)|(simp;omega)))|(with_reducible refine Below.setCell ?_ ?_ _;rotate_left;(first|exact Nat.le_refl _|(simp;done)|(simp;omega)))|(with_reducible refine Below.drew ?_)));exact aF
   ·have HE:Hid (o=none):=(show _=_ by rw[<-ho,if_pos rfl];exact SK hx htx)
    have g1:=u_ htx
    have HT:=Lib.hid hx
    clear hx ho he htx
    go_enter Tryz.func23,Tryz.ntmps23
    go_wp2_with (first|(go_at_call 46;refine(fJ _ L _ (hv.keep (aj _ _)) hLn hLo).mono ?_;rintro e1 w1⟨rfl,hb1⟩;rw[HG.out];have hB1:Below (w.heap.size+1) (w.alloc (.cells #[.int .i64 0,.string ⟨#[]⟩,.string ⟨#[]⟩,.slice none 0 0] 45)) w1:=hb1.mono (by simp))|(go_at_call 62;refine(nR _).mono ?_;rintro e2 w2⟨rfl,hb2⟩;have hz2:w.heap.size+1<=w2.heap.size:=(by have h1:=hB1.size;have h2:=hb2.size;simp at h1;omega);have hB2:Below (w.heap.size+1) (w.alloc (.cells #[.int .i64 0,.string ⟨#[]⟩,.string ⟨#[]⟩,.slice none 0 0] 45)) w2:=hB1.trans (hb2.mono (by have h1:=hB1.size;simpa using h1));have hv2:aG w2 (.slice a L.length cap) L:=hv.keep ((aj _ _).trans (hB2.mono (by omega)));have ht2:dF w2:=ht.keep ((aj _ _).trans (hB2.mono (by omega)));clear hB1 hb1 hb2))
    refine wp_loop_rounds 1 ?_
    rw[rounds_succ]
    go_wp2_with (first|(go_at_call 63;refine(sS (p:=dA) HY.out).mono ?_;rintro e8 w8⟨rfl,rfl⟩;rw[HX.out])|(go_at_call 115;have hA0:Below w2.heap.size w2 w2:=Below.refl _ _;have hA1:=hA0.alloc hA0.size (.cells #[.func (.func 109) #[] #[],.func (.func 110) #[] #[],.func (.func 113) #[] #[],.func (.func 115) #[] #[],.string dA] 105);refine(hpar _ _ (hv2.keep hA1) (ht2.keep hA1)).mono ?_;rintro e3 w3⟨v3,rfl,ho3,hb3⟩;obtain⟨a3,c3,rfl⟩:=ho3.slice;have hk3:=hA1.trans (hb3.mono hA1.size);have hB3:=hB2.trans (hk3.mono hz2);obtain⟨r0,r1,r2,r3,rf,hz1,aF⟩:=aY hB3;have hv3:=hv2.keep hk3;have hz3:=hk3.size;clear hb3 hA0 hA1))
    refine(sG _ _ L e _ (hv3.keep (aj _ _)) hLn hLo (ho3.at.keep (aj _ _)) hee).mono ?_
    rintro e4 w4⟨rfl,hb4⟩
    rw[HT.out]
    have jk:Below (w3.heap.size+1) (w3.alloc (.cells #[.int .i64 e.kind,.string e.name,.string e.to,.slice a3 e.body.length c3] 45)) w4:=hb4.mono (by simp)
    have hB4:=hB3.trans (((aj w3 (.cells #[.int .i64 e.kind,.string e.name,.string e.to,.slice a3 e.body.length c3] 45)).trans (jk.mono (by omega))).mono (by omega))
    obtain⟨x0,x1,x2,x3,xz,hk4⟩:=kX jk
    clear r0 r1 r2 r3 rf hz1 aF
    obtain⟨r0,r1,r2,r3,rf,hz1,aF⟩:=aY hB4
    simp only[Option.isSome_none,Option.isSome_some,Option.getD_none,Option.getD_some]
    go_wp2
    refine bodyPost_ret (v:=.tuple #[.agg #[.int .i64 0,.string ⟨#[]⟩,.string ⟨#[]⟩,.slice none 0 0],.bool false]) (by simp[results,Tryz.results23,go_sem,r0,r1,r2,r3,rf,hz1]) rfl ?_
    rw[HE.out]
    refine kK ?_
    (repeat(first|(with_reducible refine Below.alloc ?_ ?_ _;rotate_left;(first|omega|(simp;done)|(simp;omega)))|(with_reducible refine Below.setCell ?_ ?_ _;rotate_left;(first|exact Nat.le_refl _|(simp;done)|(simp;omega)))|(with_reducible refine Below.drew ?_)));exact aF
theorem afV (v:Value) (L:List Df) (s X:ByteArray) (e:En) (ok:Bool) (o:Option En) (w:World) (hv:aG w v L) (hg:good L=true) (ht:dF w) (h1:dA.data.toList.isPrefixOf s.data.toList=false) (hy:dQ.data.toList.isPrefixOf s.data.toList=true) (hX:bytesOf (s.data.toList.drop dQ.size)=X)
  (hpar:∀(v1:Value) (w1:World),aG w1 v1 L->dF w1->Calls Tryz.prog 121 #[v1,.string X] w1 (xU e.kind e.name e.to e.body ok w1)) (he:ok=true->dW e) (ho:(if ok=true then jh L s (some e)else none)=o) :
  Calls Tryz.prog 23 #[v,.string s] w (ny o w):=by
 obtain⟨a,cap,rfl⟩:∃a cap,v=.slice a L.length cap:=by obtain⟨a,cap,rfl,_⟩:=hv;exact⟨a,cap,rfl⟩
 obtain⟨hLo,hLn⟩:=mJ hg;have HG:=Lib.hid hg;have HY:=Lib.hid hy;have HX:=Lib.hid hX;have uZ:=Lib.hid h1;have hix0:=λw=>(o8 w).1;have hix1:=λw=>(o8 w).2.1;have hix2:=λw=>(o8 w).2.2;simp only[qX,qY,qZ,fv]at hix0 hix1 hix2;clear hg hy hX h1;cases ok with
 | false =>
  have HE:Hid (o=none):=(show _=_ by rw[<-ho];simp)
  clear ho
  go_enter Tryz.func23,Tryz.ntmps23
  go_wp2_with (first|(go_at_call 46;refine(fJ _ L _ (hv.keep (aj _ _)) hLn hLo).mono ?_;rintro e1 w1⟨rfl,hb1⟩;rw[HG.out];have hB1:Below (w.heap.size+1) (w.alloc (.cells #[.int .i64 0,.string ⟨#[]⟩,.string ⟨#[]⟩,.slice none 0 0] 45)) w1:=hb1.mono (by simp))|(go_at_call 62;refine(nR _).mono ?_;rintro e2 w2⟨rfl,hb2⟩;have hz2:w.heap.size+1<=w2.heap.size:=(by have h1:=hB1.size;have h2:=hb2.size;simp at h1;omega);have hB2:Below (w.heap.size+1) (w.alloc (.cells #[.int .i64 0,.string ⟨#[]⟩,.string ⟨#[]⟩,.slice none 0 0] 45)) w2:=hB1.trans (hb2.mono (by have h1:=hB1.size;simpa using h1));have hv2:aG w2 (.slice a L.length cap) L:=hv.keep ((aj _ _).trans (hB2.mono (by omega)));have ht2:dF w2:=ht.keep ((aj _ _).trans (hB2.mono (by omega)));clear hB1 hb1 hb2))
  refine wp_loop_rounds 2 ?_
  rw[rounds_succ]
  go_wp2_with (go_at_call 63;refine(pF (p:=dA) uZ.out).mono ?_;rintro e8 w8⟨rfl,rfl⟩)
  rw[rounds_succ]
  go_wp2_with (first|(go_at_call 63;refine(sS (p:=dQ) HY.out).mono ?_;rintro e8 w8⟨rfl,rfl⟩;rw[HX.out])|(go_at_call 121;have hA0:Below w2.heap.size w2 w2:=Below.refl _ _;have hA1:=hA0.alloc hA0.size (.cells #[.func (.func 109) #[] #[],.func (.func 110) #[] #[],.func (.func 113) #[] #[],.func (.func 115) #[] #[],.string dA] 105);have hA2:=hA1.alloc hA1.size (.cells #[.func (.func 117) #[] #[],.func (.func 118) #[] #[],.func (.func 120) #[] #[],.func (.func 121) #[] #[],.string dQ] 105);refine(hpar _ _ (hv2.keep hA2) (ht2.keep hA2)).mono ?_;rintro e3 w3⟨v3,rfl,ho3,hb3⟩;obtain⟨a3,c3,rfl⟩:=ho3.slice;have hk3:=hA2.trans (hb3.mono hA2.size);have hB3:=hB2.trans (hk3.mono hz2);obtain⟨r0,r1,r2,r3,rf,hz1,aF⟩:=aY hB3;have hv3:=hv2.keep hk3;have hz3:=hk3.size;clear hb3 hA0 hA1 hA2))
  refine bodyPost_ret (v:=.tuple #[.agg #[.int .i64 0,.string ⟨#[]⟩,.string ⟨#[]⟩,.slice none 0 0],.bool false]) (by simp[results,Tryz.results23,go_sem,r0,r1,r2,r3,rf,hz1]) rfl ?_
  rw[HE.out]
  refine kK ?_
  (repeat(first|(with_reducible refine Below.alloc ?_ ?_ _;rotate_left;(first|omega|(simp;done)|(simp;omega)))|(with_reducible refine Below.setCell ?_ ?_ _;rotate_left;(first|exact Nat.le_refl _|(simp;done)|(simp;omega)))|(with_reducible refine Below.drew ?_)));exact aF
 | true =>
  have hee:=he rfl
  cases hx:lH L e with
  | none =>
   have HE:Hid (o=none):=(show _=_ by rw[<-ho,if_pos rfl];exact SH hx)
   have HT:=Lib.hid hx
   clear hx ho he
   go_enter Tryz.func23,Tryz.ntmps23
   go_wp2_with (first|(go_at_call 46;refine(fJ _ L _ (hv.keep (aj _ _)) hLn hLo).mono ?_;rintro e1 w1⟨rfl,hb1⟩;rw[HG.out];have hB1:Below (w.heap.size+1) (w.alloc (.cells #[.int .i64 0,.string ⟨#[]⟩,.string ⟨#[]⟩,.slice none 0 0] 45)) w1:=hb1.mono (by simp))|(go_at_call 62;refine(nR _).mono ?_;rintro e2 w2⟨rfl,hb2⟩;have hz2:w.heap.size+1<=w2.heap.size:=(by have h1:=hB1.size;have h2:=hb2.size;simp at h1;omega);have hB2:Below (w.heap.size+1) (w.alloc (.cells #[.int .i64 0,.string ⟨#[]⟩,.string ⟨#[]⟩,.slice none 0 0] 45)) w2:=hB1.trans (hb2.mono (by have h1:=hB1.size;simpa using h1));have hv2:aG w2 (.slice a L.length cap) L:=hv.keep ((aj _ _).trans (hB2.mono (by omega)));have ht2:dF w2:=ht.keep ((aj _ _).trans (hB2.mono (by omega)));clear hB1 hb1 hb2))
   refine wp_loop_rounds 2 ?_
   rw[rounds_succ]
   go_wp2_with (go_at_call 63;refine(pF (p:=dA) uZ.out).mono ?_;rintro e8 w8⟨rfl,rfl⟩)
   rw[rounds_succ]
   go_wp2_with (first|(go_at_call 63;refine(sS (p:=dQ) HY.out).mono ?_;rintro e8 w8⟨rfl,rfl⟩;rw[HX.out])|(go_at_call 121;have hA0:Below w2.heap.size w2 w2:=Below.refl _ _;have hA1:=hA0.alloc hA0.size (.cells #[.func (.func 109) #[] #[],.func (.func 110) #[] #[],.func (.func 113) #[] #[],.func (.func 115) #[] #[],.string dA] 105);have hA2:=hA1.alloc hA1.size (.cells #[.func (.func 117) #[] #[],.func (.func 118) #[] #[],.func (.func 120) #[] #[],.func (.func 121) #[] #[],.string dQ] 105);refine(hpar _ _ (hv2.keep hA2) (ht2.keep hA2)).mono ?_;rintro e3 w3⟨v3,rfl,ho3,hb3⟩;obtain⟨a3,c3,rfl⟩:=ho3.slice;have hk3:=hA2.trans (hb3.mono hA2.size);have hB3:=hB2.trans (hk3.mono hz2);obtain⟨r0,r1,r2,r3,rf,hz1,aF⟩:=aY hB3;have hv3:=hv2.keep hk3;have hz3:=hk3.size;clear hb3 hA0 hA1 hA2))
   refine(sG _ _ L e _ (hv3.keep (aj _ _)) hLn hLo (ho3.at.keep (aj _ _)) hee).mono ?_
   rintro e4 w4⟨rfl,hb4⟩
   rw[HT.out]
   have jk:Below (w3.heap.size+1) (w3.alloc (.cells #[.int .i64 e.kind,.string e.name,.string e.to,.slice a3 e.body.length c3] 45)) w4:=hb4.mono (by simp)
   have hB4:=hB3.trans (((aj w3 (.cells #[.int .i64 e.kind,.string e.name,.string e.to,.slice a3 e.body.length c3] 45)).trans (jk.mono (by omega))).mono (by omega))
   obtain⟨x0,x1,x2,x3,xz,hk4⟩:=kX jk
   clear r0 r1 r2 r3 rf hz1 aF
   obtain⟨r0,r1,r2,r3,rf,hz1,aF⟩:=aY hB4
   simp only[Option.isSome_none,Option.isSome_some,Option.getD_none,Option.getD_some]
   go_wp2
   refine bodyPost_ret (v:=.tuple #[.agg #[.int .i64 0,.string ⟨#[]⟩,.string ⟨#[]⟩,.slice none 0 0],.bool false]) (by simp[results,Tryz.results23,go_sem,r0,r1,r2,r3,rf,hz1]) rfl ?_
   rw[HE.out]
   refine kK ?_
   (repeat(first|(with_reducible refine Below.alloc ?_ ?_ _;rotate_left;(first|omega|(simp;done)|(simp;omega)))|(with_reducible refine Below.setCell ?_ ?_ _;rotate_left;(first|exact Nat.le_refl _|(simp;done)|(simp;omega)))|(with_reducible refine Below.drew ?_)));exact aF
  | some tx =>
   by_cases htx:tx=s
   ·subst htx
    have HE:Hid (o=some e):=(show _=_ by rw[<-ho,if_pos rfl];exact SI hx)
    have HT:=Lib.hid hx
    clear hx ho he
    go_enter Tryz.func23,Tryz.ntmps23
    go_wp2_with (first|(go_at_call 46;refine(fJ _ L _ (hv.keep (aj _ _)) hLn hLo).mono ?_;rintro e1 w1⟨rfl,hb1⟩;rw[HG.out];have hB1:Below (w.heap.size+1) (w.alloc (.cells #[.int .i64 0,.string ⟨#[]⟩,.string ⟨#[]⟩,.slice none 0 0] 45)) w1:=hb1.mono (by simp))|(go_at_call 62;refine(nR _).mono ?_;rintro e2 w2⟨rfl,hb2⟩;have hz2:w.heap.size+1<=w2.heap.size:=(by have h1:=hB1.size;have h2:=hb2.size;simp at h1;omega);have hB2:Below (w.heap.size+1) (w.alloc (.cells #[.int .i64 0,.string ⟨#[]⟩,.string ⟨#[]⟩,.slice none 0 0] 45)) w2:=hB1.trans (hb2.mono (by have h1:=hB1.size;simpa using h1));have hv2:aG w2 (.slice a L.length cap) L:=hv.keep ((aj _ _).trans (hB2.mono (by omega)));have ht2:dF w2:=ht.keep ((aj _ _).trans (hB2.mono (by omega)));clear hB1 hb1 hb2))
    refine wp_loop_rounds 2 ?_
    rw[rounds_succ]
    go_wp2_with (go_at_call 63;refine(pF (p:=dA) uZ.out).mono ?_;rintro e8 w8⟨rfl,rfl⟩)
    rw[rounds_succ]
    go_wp2_with (first|(go_at_call 63;refine(sS (p:=dQ) HY.out).mono ?_;rintro e8 w8⟨rfl,rfl⟩;rw[HX.out])|(go_at_call 121;have hA0:Below w2.heap.size w2 w2:=Below.refl _ _;have hA1:=hA0.alloc hA0.size (.cells #[.func (.func 109) #[] #[],.func (.func 110) #[] #[],.func (.func 113) #[] #[],.func (.func 115) #[] #[],.string dA] 105);have hA2:=hA1.alloc hA1.size (.cells #[.func (.func 117) #[] #[],.func (.func 118) #[] #[],.func (.func 120) #[] #[],.func (.func 121) #[] #[],.string dQ] 105);refine(hpar _ _ (hv2.keep hA2) (ht2.keep hA2)).mono ?_;rintro e3 w3⟨v3,rfl,ho3,hb3⟩;obtain⟨a3,c3,rfl⟩:=ho3.slice;have hk3:=hA2.trans (hb3.mono hA2.size);have hB3:=hB2.trans (hk3.mono hz2);obtain⟨r0,r1,r2,r3,rf,hz1,aF⟩:=aY hB3;have hv3:=hv2.keep hk3;have hz3:=hk3.size;clear hb3 hA0 hA1 hA2))
    refine(sG _ _ L e _ (hv3.keep (aj _ _)) hLn hLo (ho3.at.keep (aj _ _)) hee).mono ?_
    rintro e4 w4⟨rfl,hb4⟩
    rw[HT.out]
    have jk:Below (w3.heap.size+1) (w3.alloc (.cells #[.int .i64 e.kind,.string e.name,.string e.to,.slice a3 e.body.length c3] 45)) w4:=hb4.mono (by simp)
    have hB4:=hB3.trans (((aj w3 (.cells #[.int .i64 e.kind,.string e.name,.string e.to,.slice a3 e.body.length c3] 45)).trans (jk.mono (by omega))).mono (by omega))
    obtain⟨x0,x1,x2,x3,xz,hk4⟩:=kX jk
    clear r0 r1 r2 r3 rf hz1 aF
    obtain⟨r0,r1,r2,r3,rf,hz1,aF⟩:=aY hB4
    simp only[Option.isSome_none,Option.isSome_some,Option.getD_none,Option.getD_some]
    go_wp2
    refine bodyPost_ret (v:=.tuple #[.agg #[.int .i64 e.kind,.string e.name,.string e.to,.slice a3 e.body.length c3],.bool true]) (by simp[results,Tryz.results23,go_sem,r0,r1,r2,r3,rf,hz1]) rfl ?_
    rw[HE.out]
    refine⟨_,rfl,?_,?_⟩
    ·have bF:=(ho3.keep (aj _ _)).keep hb4
     exact au.mono (B:=w.heap.size+1) (by omega) (((((bF.mono (by simp;omega)).bY (a:=⟨w.heap.size,0,none⟩) (by simp) _).bY (a:=⟨w.heap.size,1,none⟩) (by simp) _).bY (a:=⟨w.heap.size,2,none⟩) (by simp) _).bY (a:=⟨w.heap.size,3,none⟩) (by simp) _)
    ·(repeat(first|(with_reducible refine Below.alloc ?_ ?_ _;rotate_left;(first|omega|(simp;done)|(simp;omega)))|(with_reducible refine Below.setCell ?_ ?_ _;rotate_left;(first|exact Nat.le_refl _|(simp;done)|(simp;omega)))|(with_reducible refine Below.drew ?_)));exact aF
   ·have HE:Hid (o=none):=(show _=_ by rw[<-ho,if_pos rfl];exact SK hx htx)
    have g1:=u_ htx
    have HT:=Lib.hid hx
    clear hx ho he htx
    go_enter Tryz.func23,Tryz.ntmps23
    go_wp2_with (first|(go_at_call 46;refine(fJ _ L _ (hv.keep (aj _ _)) hLn hLo).mono ?_;rintro e1 w1⟨rfl,hb1⟩;rw[HG.out];have hB1:Below (w.heap.size+1) (w.alloc (.cells #[.int .i64 0,.string ⟨#[]⟩,.string ⟨#[]⟩,.slice none 0 0] 45)) w1:=hb1.mono (by simp))|(go_at_call 62;refine(nR _).mono ?_;rintro e2 w2⟨rfl,hb2⟩;have hz2:w.heap.size+1<=w2.heap.size:=(by have h1:=hB1.size;have h2:=hb2.size;simp at h1;omega);have hB2:Below (w.heap.size+1) (w.alloc (.cells #[.int .i64 0,.string ⟨#[]⟩,.string ⟨#[]⟩,.slice none 0 0] 45)) w2:=hB1.trans (hb2.mono (by have h1:=hB1.size;simpa using h1));have hv2:aG w2 (.slice a L.length cap) L:=hv.keep ((aj _ _).trans (hB2.mono (by omega)));have ht2:dF w2:=ht.keep ((aj _ _).trans (hB2.mono (by omega)));clear hB1 hb1 hb2))
    refine wp_loop_rounds 2 ?_
    rw[rounds_succ]
    go_wp2_with (go_at_call 63;refine(pF (p:=dA) uZ.out).mono ?_;rintro e8 w8⟨rfl,rfl⟩)
    rw[rounds_succ]
    go_wp2_with (first|(go_at_call 63;refine(sS (p:=dQ) HY.out).mono ?_;rintro e8 w8⟨rfl,rfl⟩;rw[HX.out])|(go_at_call 121;have hA0:Below w2.heap.size w2 w2:=Below.refl _ _;have hA1:=hA0.alloc hA0.size (.cells #[.func (.func 109) #[] #[],.func (.func 110) #[] #[],.func (.func 113) #[] #[],.func (.func 115) #[] #[],.string dA] 105);have hA2:=hA1.alloc hA1.size (.cells #[.func (.func 117) #[] #[],.func (.func 118) #[] #[],.func (.func 120) #[] #[],.func (.func 121) #[] #[],.string dQ] 105);refine(hpar _ _ (hv2.keep hA2) (ht2.keep hA2)).mono ?_;rintro e3 w3⟨v3,rfl,ho3,hb3⟩;obtain⟨a3,c3,rfl⟩:=ho3.slice;have hk3:=hA2.trans (hb3.mono hA2.size);have hB3:=hB2.trans (hk3.mono hz2);obtain⟨r0,r1,r2,r3,rf,hz1,aF⟩:=aY hB3;have hv3:=hv2.keep hk3;have hz3:=hk3.size;clear hb3 hA0 hA1 hA2))
    refine(sG _ _ L e _ (hv3.keep (aj _ _)) hLn hLo (ho3.at.keep (aj _ _)) hee).mono ?_
    rintro e4 w4⟨rfl,hb4⟩
    rw[HT.out]
    have jk:Below (w3.heap.size+1) (w3.alloc (.cells #[.int .i64 e.kind,.string e.name,.string e.to,.slice a3 e.body.length c3] 45)) w4:=hb4.mono (by simp)
    have hB4:=hB3.trans (((aj w3 (.cells #[.int .i64 e.kind,.string e.name,.string e.to,.slice a3 e.body.length c3] 45)).trans (jk.mono (by omega))).mono (by omega))
    obtain⟨x0,x1,x2,x3,xz,hk4⟩:=kX jk
    clear r0 r1 r2 r3 rf hz1 aF
    obtain⟨r0,r1,r2,r3,rf,hz1,aF⟩:=aY hB4
    simp only[Option.isSome_none,Option.isSome_some,Option.getD_none,Option.getD_some]
    go_wp2
    refine bodyPost_ret (v:=.tuple #[.agg #[.int .i64 0,.string ⟨#[]⟩,.string ⟨#[]⟩,.slice none 0 0],.bool false]) (by simp[results,Tryz.results23,go_sem,r0,r1,r2,r3,rf,hz1]) rfl ?_
    rw[HE.out]
    refine kK ?_
    (repeat(first|(with_reducible refine Below.alloc ?_ ?_ _;rotate_left;(first|omega|(simp;done)|(simp;omega)))|(with_reducible refine Below.setCell ?_ ?_ _;rotate_left;(first|exact Nat.le_refl _|(simp;done)|(simp;omega)))|(with_reducible refine Below.drew ?_)));exact aF
theorem ZQ (v:Value) (L:List Df) (s X:ByteArray) (e:En) (ok:Bool) (o:Option En) (w:World) (hv:aG w v L) (hg:good L=true) (ht:dF w) (h1:dA.data.toList.isPrefixOf s.data.toList=false) (h2:dQ.data.toList.isPrefixOf s.data.toList=false) (hy:fE.data.toList.isPrefixOf s.data.toList=true) (hX:bytesOf (s.data.toList.drop fE.size)=X)
  (hpar:∀(v1:Value) (w1:World),aG w1 v1 L->dF w1->Calls Tryz.prog 126 #[v1,.string X] w1 (xU e.kind e.name e.to e.body ok w1)) (he:ok=true->dW e) (ho:(if ok=true then jh L s (some e)else none)=o) :
  Calls Tryz.prog 23 #[v,.string s] w (ny o w):=by
 obtain⟨a,cap,rfl⟩:∃a cap,v=.slice a L.length cap:=by obtain⟨a,cap,rfl,_⟩:=hv;exact⟨a,cap,rfl⟩
 obtain⟨hLo,hLn⟩:=mJ hg;have HG:=Lib.hid hg;have HY:=Lib.hid hy;have HX:=Lib.hid hX;have uZ:=Lib.hid h1;have zh:=Lib.hid h2;have hix0:=λw=>(o8 w).1;have hix1:=λw=>(o8 w).2.1;have hix2:=λw=>(o8 w).2.2;simp only[qX,qY,qZ,fv]at hix0 hix1 hix2;clear hg hy hX h1 h2;cases ok with
 | false =>
  have HE:Hid (o=none):=(show _=_ by rw[<-ho];simp)
  clear ho
  go_enter Tryz.func23,Tryz.ntmps23
  go_wp2_with (first|(go_at_call 46;refine(fJ _ L _ (hv.keep (aj _ _)) hLn hLo).mono ?_;rintro e1 w1⟨rfl,hb1⟩;rw[HG.out];have hB1:Below (w.heap.size+1) (w.alloc (.cells #[.int .i64 0,.string ⟨#[]⟩,.string ⟨#[]⟩,.slice none 0 0] 45)) w1:=hb1.mono (by simp))|(go_at_call 62;refine(nR _).mono ?_;rintro e2 w2⟨rfl,hb2⟩;have hz2:w.heap.size+1<=w2.heap.size:=(by have h1:=hB1.size;have h2:=hb2.size;simp at h1;omega);have hB2:Below (w.heap.size+1) (w.alloc (.cells #[.int .i64 0,.string ⟨#[]⟩,.string ⟨#[]⟩,.slice none 0 0] 45)) w2:=hB1.trans (hb2.mono (by have h1:=hB1.size;simpa using h1));have hv2:aG w2 (.slice a L.length cap) L:=hv.keep ((aj _ _).trans (hB2.mono (by omega)));have ht2:dF w2:=ht.keep ((aj _ _).trans (hB2.mono (by omega)));clear hB1 hb1 hb2))
  refine wp_loop_rounds 3 ?_
  rw[rounds_succ]
  go_wp2_with (go_at_call 63;refine(pF (p:=dA) uZ.out).mono ?_;rintro e8 w8⟨rfl,rfl⟩)
  rw[rounds_succ]
  go_wp2_with (go_at_call 63;refine(pF (p:=dQ) zh.out).mono ?_;rintro e8 w8⟨rfl,rfl⟩)
  rw[rounds_succ]
  go_wp2_with (first|(go_at_call 63;refine(sS (p:=fE) HY.out).mono ?_;rintro e8 w8⟨rfl,rfl⟩;rw[HX.out])|(go_at_call 126;have hA0:Below w2.heap.size w2 w2:=Below.refl _ _;have hA1:=hA0.alloc hA0.size (.cells #[.func (.func 109) #[] #[],.func (.func 110) #[] #[],.func (.func 113) #[] #[],.func (.func 115) #[] #[],.string dA] 105);have hA2:=hA1.alloc hA1.size (.cells #[.func (.func 117) #[] #[],.func (.func 118) #[] #[],.func (.func 120) #[] #[],.func (.func 121) #[] #[],.string dQ] 105);have hA3:=hA2.alloc hA2.size (.cells #[.func (.func 122) #[] #[],.func (.func 123) #[] #[],.func (.func 125) #[] #[],.func (.func 126) #[] #[],.string fE] 105);refine(hpar _ _ (hv2.keep hA3) (ht2.keep hA3)).mono ?_;rintro e3 w3⟨v3,rfl,ho3,hb3⟩;obtain⟨a3,c3,rfl⟩:=ho3.slice;have hk3:=hA3.trans (hb3.mono hA3.size);have hB3:=hB2.trans (hk3.mono hz2);obtain⟨r0,r1,r2,r3,rf,hz1,aF⟩:=aY hB3;have hv3:=hv2.keep hk3;have hz3:=hk3.size;clear hb3 hA0 hA1 hA2 hA3))
  refine bodyPost_ret (v:=.tuple #[.agg #[.int .i64 0,.string ⟨#[]⟩,.string ⟨#[]⟩,.slice none 0 0],.bool false]) (by simp[results,Tryz.results23,go_sem,r0,r1,r2,r3,rf,hz1]) rfl ?_
  rw[HE.out]
  refine kK ?_
  (repeat(first|(with_reducible refine Below.alloc ?_ ?_ _;rotate_left;(first|omega|(simp;done)|(simp;omega)))|(with_reducible refine Below.setCell ?_ ?_ _;rotate_left;(first|exact Nat.le_refl _|(simp;done)|(simp;omega)))|(with_reducible refine Below.drew ?_)));exact aF
 | true =>
  have hee:=he rfl
  cases hx:lH L e with
  | none =>
   have HE:Hid (o=none):=(show _=_ by rw[<-ho,if_pos rfl];exact SH hx)
   have HT:=Lib.hid hx
   clear hx ho he
   go_enter Tryz.func23,Tryz.ntmps23
   go_wp2_with (first|(go_at_call 46;refine(fJ _ L _ (hv.keep (aj _ _)) hLn hLo).mono ?_;rintro e1 w1⟨rfl,hb1⟩;rw[HG.out];have hB1:Below (w.heap.size+1) (w.alloc (.cells #[.int .i64 0,.string ⟨#[]⟩,.string ⟨#[]⟩,.slice none 0 0] 45)) w1:=hb1.mono (by simp))|(go_at_call 62;refine(nR _).mono ?_;rintro e2 w2⟨rfl,hb2⟩;have hz2:w.heap.size+1<=w2.heap.size:=(by have h1:=hB1.size;have h2:=hb2.size;simp at h1;omega);have hB2:Below (w.heap.size+1) (w.alloc (.cells #[.int .i64 0,.string ⟨#[]⟩,.string ⟨#[]⟩,.slice none 0 0] 45)) w2:=hB1.trans (hb2.mono (by have h1:=hB1.size;simpa using h1));have hv2:aG w2 (.slice a L.length cap) L:=hv.keep ((aj _ _).trans (hB2.mono (by omega)));have ht2:dF w2:=ht.keep ((aj _ _).trans (hB2.mono (by omega)));clear hB1 hb1 hb2))
   refine wp_loop_rounds 3 ?_
   rw[rounds_succ]
   go_wp2_with (go_at_call 63;refine(pF (p:=dA) uZ.out).mono ?_;rintro e8 w8⟨rfl,rfl⟩)
   rw[rounds_succ]
   go_wp2_with (go_at_call 63;refine(pF (p:=dQ) zh.out).mono ?_;rintro e8 w8⟨rfl,rfl⟩)
   rw[rounds_succ]
   go_wp2_with (first|(go_at_call 63;refine(sS (p:=fE) HY.out).mono ?_;rintro e8 w8⟨rfl,rfl⟩;rw[HX.out])|(go_at_call 126;have hA0:Below w2.heap.size w2 w2:=Below.refl _ _;have hA1:=hA0.alloc hA0.size (.cells #[.func (.func 109) #[] #[],.func (.func 110) #[] #[],.func (.func 113) #[] #[],.func (.func 115) #[] #[],.string dA] 105);have hA2:=hA1.alloc hA1.size (.cells #[.func (.func 117) #[] #[],.func (.func 118) #[] #[],.func (.func 120) #[] #[],.func (.func 121) #[] #[],.string dQ] 105);have hA3:=hA2.alloc hA2.size (.cells #[.func (.func 122) #[] #[],.func (.func 123) #[] #[],.func (.func 125) #[] #[],.func (.func 126) #[] #[],.string fE] 105);refine(hpar _ _ (hv2.keep hA3) (ht2.keep hA3)).mono ?_;rintro e3 w3⟨v3,rfl,ho3,hb3⟩;obtain⟨a3,c3,rfl⟩:=ho3.slice;have hk3:=hA3.trans (hb3.mono hA3.size);have hB3:=hB2.trans (hk3.mono hz2);obtain⟨r0,r1,r2,r3,rf,hz1,aF⟩:=aY hB3;have hv3:=hv2.keep hk3;have hz3:=hk3.size;clear hb3 hA0 hA1 hA2 hA3))
   refine(sG _ _ L e _ (hv3.keep (aj _ _)) hLn hLo (ho3.at.keep (aj _ _)) hee).mono ?_
   rintro e4 w4⟨rfl,hb4⟩
   rw[HT.out]
   have jk:Below (w3.heap.size+1) (w3.alloc (.cells #[.int .i64 e.kind,.string e.name,.string e.to,.slice a3 e.body.length c3] 45)) w4:=hb4.mono (by simp)
   have hB4:=hB3.trans (((aj w3 (.cells #[.int .i64 e.kind,.string e.name,.string e.to,.slice a3 e.body.length c3] 45)).trans (jk.mono (by omega))).mono (by omega))
   obtain⟨x0,x1,x2,x3,xz,hk4⟩:=kX jk
   clear r0 r1 r2 r3 rf hz1 aF
   obtain⟨r0,r1,r2,r3,rf,hz1,aF⟩:=aY hB4
   simp only[Option.isSome_none,Option.isSome_some,Option.getD_none,Option.getD_some]
   go_wp2
   refine bodyPost_ret (v:=.tuple #[.agg #[.int .i64 0,.string ⟨#[]⟩,.string ⟨#[]⟩,.slice none 0 0],.bool false]) (by simp[results,Tryz.results23,go_sem,r0,r1,r2,r3,rf,hz1]) rfl ?_
   rw[HE.out]
   refine kK ?_
   (repeat(first|(with_reducible refine Below.alloc ?_ ?_ _;rotate_left;(first|omega|(simp;done)|(simp;omega)))|(with_reducible refine Below.setCell ?_ ?_ _;rotate_left;(first|exact Nat.le_refl _|(simp;done)|(simp;omega)))|(with_reducible refine Below.drew ?_)));exact aF
  | some tx =>
   by_cases htx:tx=s
   ·subst htx
    have HE:Hid (o=some e):=(show _=_ by rw[<-ho,if_pos rfl];exact SI hx)
    have HT:=Lib.hid hx
    clear hx ho he
    go_enter Tryz.func23,Tryz.ntmps23
    go_wp2_with (first|(go_at_call 46;refine(fJ _ L _ (hv.keep (aj _ _)) hLn hLo).mono ?_;rintro e1 w1⟨rfl,hb1⟩;rw[HG.out];have hB1:Below (w.heap.size+1) (w.alloc (.cells #[.int .i64 0,.string ⟨#[]⟩,.string ⟨#[]⟩,.slice none 0 0] 45)) w1:=hb1.mono (by simp))|(go_at_call 62;refine(nR _).mono ?_;rintro e2 w2⟨rfl,hb2⟩;have hz2:w.heap.size+1<=w2.heap.size:=(by have h1:=hB1.size;have h2:=hb2.size;simp at h1;omega);have hB2:Below (w.heap.size+1) (w.alloc (.cells #[.int .i64 0,.string ⟨#[]⟩,.string ⟨#[]⟩,.slice none 0 0] 45)) w2:=hB1.trans (hb2.mono (by have h1:=hB1.size;simpa using h1));have hv2:aG w2 (.slice a L.length cap) L:=hv.keep ((aj _ _).trans (hB2.mono (by omega)));have ht2:dF w2:=ht.keep ((aj _ _).trans (hB2.mono (by omega)));clear hB1 hb1 hb2))
    refine wp_loop_rounds 3 ?_
    rw[rounds_succ]
    go_wp2_with (go_at_call 63;refine(pF (p:=dA) uZ.out).mono ?_;rintro e8 w8⟨rfl,rfl⟩)
    rw[rounds_succ]
    go_wp2_with (go_at_call 63;refine(pF (p:=dQ) zh.out).mono ?_;rintro e8 w8⟨rfl,rfl⟩)
    rw[rounds_succ]
    go_wp2_with (first|(go_at_call 63;refine(sS (p:=fE) HY.out).mono ?_;rintro e8 w8⟨rfl,rfl⟩;rw[HX.out])|(go_at_call 126;have hA0:Below w2.heap.size w2 w2:=Below.refl _ _;have hA1:=hA0.alloc hA0.size (.cells #[.func (.func 109) #[] #[],.func (.func 110) #[] #[],.func (.func 113) #[] #[],.func (.func 115) #[] #[],.string dA] 105);have hA2:=hA1.alloc hA1.size (.cells #[.func (.func 117) #[] #[],.func (.func 118) #[] #[],.func (.func 120) #[] #[],.func (.func 121) #[] #[],.string dQ] 105);have hA3:=hA2.alloc hA2.size (.cells #[.func (.func 122) #[] #[],.func (.func 123) #[] #[],.func (.func 125) #[] #[],.func (.func 126) #[] #[],.string fE] 105);refine(hpar _ _ (hv2.keep hA3) (ht2.keep hA3)).mono ?_;rintro e3 w3⟨v3,rfl,ho3,hb3⟩;obtain⟨a3,c3,rfl⟩:=ho3.slice;have hk3:=hA3.trans (hb3.mono hA3.size);have hB3:=hB2.trans (hk3.mono hz2);obtain⟨r0,r1,r2,r3,rf,hz1,aF⟩:=aY hB3;have hv3:=hv2.keep hk3;have hz3:=hk3.size;clear hb3 hA0 hA1 hA2 hA3))
    refine(sG _ _ L e _ (hv3.keep (aj _ _)) hLn hLo (ho3.at.keep (aj _ _)) hee).mono ?_
    rintro e4 w4⟨rfl,hb4⟩
    rw[HT.out]
    have jk:Below (w3.heap.size+1) (w3.alloc (.cells #[.int .i64 e.kind,.string e.name,.string e.to,.slice a3 e.body.length c3] 45)) w4:=hb4.mono (by simp)
    have hB4:=hB3.trans (((aj w3 (.cells #[.int .i64 e.kind,.string e.name,.string e.to,.slice a3 e.body.length c3] 45)).trans (jk.mono (by omega))).mono (by omega))
    obtain⟨x0,x1,x2,x3,xz,hk4⟩:=kX jk
    clear r0 r1 r2 r3 rf hz1 aF
    obtain⟨r0,r1,r2,r3,rf,hz1,aF⟩:=aY hB4
    simp only[Option.isSome_none,Option.isSome_some,Option.getD_none,Option.getD_some]
    go_wp2
    refine bodyPost_ret (v:=.tuple #[.agg #[.int .i64 e.kind,.string e.name,.string e.to,.slice a3 e.body.length c3],.bool true]) (by simp[results,Tryz.results23,go_sem,r0,r1,r2,r3,rf,hz1]) rfl ?_
    rw[HE.out]
    refine⟨_,rfl,?_,?_⟩
    ·have bF:=(ho3.keep (aj _ _)).keep hb4
     exact au.mono (B:=w.heap.size+1) (by omega) (((((bF.mono (by simp;omega)).bY (a:=⟨w.heap.size,0,none⟩) (by simp) _).bY (a:=⟨w.heap.size,1,none⟩) (by simp) _).bY (a:=⟨w.heap.size,2,none⟩) (by simp) _).bY (a:=⟨w.heap.size,3,none⟩) (by simp) _)
    ·(repeat(first|(with_reducible refine Below.alloc ?_ ?_ _;rotate_left;(first|omega|(simp;done)|(simp;omega)))|(with_reducible refine Below.setCell ?_ ?_ _;rotate_left;(first|exact Nat.le_refl _|(simp;done)|(simp;omega)))|(with_reducible refine Below.drew ?_)));exact aF
   ·have HE:Hid (o=none):=(show _=_ by rw[<-ho,if_pos rfl];exact SK hx htx)
    have g1:=u_ htx
    have HT:=Lib.hid hx
    clear hx ho he htx
    go_enter Tryz.func23,Tryz.ntmps23
    go_wp2_with (first|(go_at_call 46;refine(fJ _ L _ (hv.keep (aj _ _)) hLn hLo).mono ?_;rintro e1 w1⟨rfl,hb1⟩;rw[HG.out];have hB1:Below (w.heap.size+1) (w.alloc (.cells #[.int .i64 0,.string ⟨#[]⟩,.string ⟨#[]⟩,.slice none 0 0] 45)) w1:=hb1.mono (by simp))|(go_at_call 62;refine(nR _).mono ?_;rintro e2 w2⟨rfl,hb2⟩;have hz2:w.heap.size+1<=w2.heap.size:=(by have h1:=hB1.size;have h2:=hb2.size;simp at h1;omega);have hB2:Below (w.heap.size+1) (w.alloc (.cells #[.int .i64 0,.string ⟨#[]⟩,.string ⟨#[]⟩,.slice none 0 0] 45)) w2:=hB1.trans (hb2.mono (by have h1:=hB1.size;simpa using h1));have hv2:aG w2 (.slice a L.length cap) L:=hv.keep ((aj _ _).trans (hB2.mono (by omega)));have ht2:dF w2:=ht.keep ((aj _ _).trans (hB2.mono (by omega)));clear hB1 hb1 hb2))
    refine wp_loop_rounds 3 ?_
    rw[rounds_succ]
    go_wp2_with (go_at_call 63;refine(pF (p:=dA) uZ.out).mono ?_;rintro e8 w8⟨rfl,rfl⟩)
    rw[rounds_succ]
    go_wp2_with (go_at_call 63;refine(pF (p:=dQ) zh.out).mono ?_;rintro e8 w8⟨rfl,rfl⟩)
    rw[rounds_succ]
    go_wp2_with (first|(go_at_call 63;refine(sS (p:=fE) HY.out).mono ?_;rintro e8 w8⟨rfl,rfl⟩;rw[HX.out])|(go_at_call 126;have hA0:Below w2.heap.size w2 w2:=Below.refl _ _;have hA1:=hA0.alloc hA0.size (.cells #[.func (.func 109) #[] #[],.func (.func 110) #[] #[],.func (.func 113) #[] #[],.func (.func 115) #[] #[],.string dA] 105);have hA2:=hA1.alloc hA1.size (.cells #[.func (.func 117) #[] #[],.func (.func 118) #[] #[],.func (.func 120) #[] #[],.func (.func 121) #[] #[],.string dQ] 105);have hA3:=hA2.alloc hA2.size (.cells #[.func (.func 122) #[] #[],.func (.func 123) #[] #[],.func (.func 125) #[] #[],.func (.func 126) #[] #[],.string fE] 105);refine(hpar _ _ (hv2.keep hA3) (ht2.keep hA3)).mono ?_;rintro e3 w3⟨v3,rfl,ho3,hb3⟩;obtain⟨a3,c3,rfl⟩:=ho3.slice;have hk3:=hA3.trans (hb3.mono hA3.size);have hB3:=hB2.trans (hk3.mono hz2);obtain⟨r0,r1,r2,r3,rf,hz1,aF⟩:=aY hB3;have hv3:=hv2.keep hk3;have hz3:=hk3.size;clear hb3 hA0 hA1 hA2 hA3))
    refine(sG _ _ L e _ (hv3.keep (aj _ _)) hLn hLo (ho3.at.keep (aj _ _)) hee).mono ?_
    rintro e4 w4⟨rfl,hb4⟩
    rw[HT.out]
    have jk:Below (w3.heap.size+1) (w3.alloc (.cells #[.int .i64 e.kind,.string e.name,.string e.to,.slice a3 e.body.length c3] 45)) w4:=hb4.mono (by simp)
    have hB4:=hB3.trans (((aj w3 (.cells #[.int .i64 e.kind,.string e.name,.string e.to,.slice a3 e.body.length c3] 45)).trans (jk.mono (by omega))).mono (by omega))
    obtain⟨x0,x1,x2,x3,xz,hk4⟩:=kX jk
    clear r0 r1 r2 r3 rf hz1 aF
    obtain⟨r0,r1,r2,r3,rf,hz1,aF⟩:=aY hB4
    simp only[Option.isSome_none,Option.isSome_some,Option.getD_none,Option.getD_some]
    go_wp2
    refine bodyPost_ret (v:=.tuple #[.agg #[.int .i64 0,.string ⟨#[]⟩,.string ⟨#[]⟩,.slice none 0 0],.bool false]) (by simp[results,Tryz.results23,go_sem,r0,r1,r2,r3,rf,hz1]) rfl ?_
    rw[HE.out]
    refine kK ?_
    (repeat(first|(with_reducible refine Below.alloc ?_ ?_ _;rotate_left;(first|omega|(simp;done)|(simp;omega)))|(with_reducible refine Below.setCell ?_ ?_ _;rotate_left;(first|exact Nat.le_refl _|(simp;done)|(simp;omega)))|(with_reducible refine Below.drew ?_)));exact aF
theorem afW {L:List Df} {s:ByteArray} {d:Df} (h:dX L s=some d):(∃t,aS (aO L) d.body=some t)/\d.name.size<=40000:=by
 unfold dX at h;cases hp:jJ L s with
 | none=>rw[hp]at h;cases h
 | some d' =>
  rw[hp]at h
  simp only at h
  split at h
  ·obtain rfl:=Option.some.inj h
   refine⟨?_,Vr hp⟩
   unfold jJ at hp
   cases ht:iU s with
   | error p=>rw[ht]at hp;cases hp
   | ok ts =>
    rw[ht]at hp
    cases ts with
    | nil=>cases hp
    | cons t r =>
     simp only at hp
     split at hp
     ·cases hw:kW L s.size r.tail with
      | error p=>rw[hw]at hp;cases hp
      | ok ns =>
       rw[hw]at hp
       simp only[Option.some.injEq]at hp
       have hok:=(IL ht).1
       obtain⟨x,hx⟩:=Um (ts:=r.tail) (by rw[<-List.drop_one];exact hok.tail.drop 1) hw
       subst hp
       exact⟨x,hx⟩
     ·cases hp
  ·cases h
theorem SQ {L:List Df} {s:ByteArray} {d:Df} (hg:good L=true) (h:dX L s=some d):dW (iw d):=by
 obtain⟨⟨t,ht⟩,hn⟩:=afW h;have hl:=Am ht;have h8:∀x∈L,x.name.size<=8:=λx hx=>qV (wB hg x hx);have hgo:∃st,bU (aO L) d.body []=some st:=by
  unfold aS at ht;split at ht
  ·cases hq:bU (aO L) d.body []with
   | none=>rw[hq]at ht;cases ht
   | some st=>exact⟨st,rfl⟩
  ·cases ht
 obtain⟨st,hst⟩:=hgo;refine⟨?_,?_,?_⟩
 ·show d.name.size<=1048576;omega
 ·show(0:Nat)<=1048576;omega
 ·exact⟨λn hn=>by have:=JC h8 d.body [] st hst n hn;omega,by show d.body.length<=1048576;omega⟩
theorem x9 {k:Int} {a b:ByteArray} (ha:a.size<=1048576) (hb:b.size<=1048576):dW ⟨k,a,b,[]⟩:=⟨ha,hb,⟨λd hd=>absurd hd (List.not_mem_nil),Nat.zero_le _⟩⟩
theorem oD (l:List UInt8):(bytesOf l).size=l.length:=by simp[bytesOf,ByteArray.size]
theorem SN (s:ByteArray) (n:Nat):(bytesOf (s.data.toList.drop n)).size<=s.size:=by
 rw[oD,List.length_drop,Array.length_toList];exact Nat.sub_le _ _
def Ep (L:List Df) (s:ByteArray):Option En:=if good L=true then jR L s else none
theorem QX (v:Value) (L:List Df) (s:ByteArray) (w:World) (hv:aG w v L) (hn:L.length<=1048576) (pW:∀d∈L,dN d) (ht:dF w) (hs:s.size<=1048576) :
  Calls Tryz.prog 23 #[v,.string s] w (ny (Ep L s) w):=by
 unfold Ep;cases hg:good L
 ·rw[if_neg (by decide)];exact afM v L s w hv hn pW hg
 rw[if_pos rfl];have hds:=SN s;unfold jR wC;by_cases h1:qA.isPrefixOf s.data.toList=true
 ·rw[if_pos h1];obtain⟨X,hX⟩:∃X,bytesOf (s.data.toList.drop 4)=X:=⟨_,rfl⟩
  have sU:X.size<=1048576:=by have:=hds 4;rw[hX]at this;omega
  rw[hX];cases hd:dX L X with
  | none=>exact ZP v L s X (iw um) false _ w hv hg ht h1 hX (λv1 w1 hv1 _=>by have:=ZN v1 L X w1 hv1 hg (by omega);rw[hd]at this;exact this) (λh=>by cases h) rfl
  | some d=>exact ZP v L s X (iw d) true _ w hv hg ht h1 hX (λv1 w1 hv1 _=>by have:=ZN v1 L X w1 hv1 hg (by omega);rw[hd]at this;exact this) (λ_=>SQ hg hd) rfl
 have h1':dA.data.toList.isPrefixOf s.data.toList=false:=Bool.eq_false_iff.2 h1;rw[if_neg h1];by_cases h2:(rC++[32]).isPrefixOf s.data.toList=true
 ·rw[if_pos h2];obtain⟨X,hX⟩:∃X,bytesOf (s.data.toList.drop 5)=X:=⟨_,rfl⟩
  have sU:X.size<=1048576:=by have:=hds 5;rw[hX]at this;omega
  rw[hX];exact afV v L s X ⟨2,X,⟨#[]⟩,[]⟩ true _ w hv hg ht h1' h2 hX (λv1 w1 hv1 _=>by obtain⟨a,c,rfl,_⟩:=hv1;exact afJ _ _ _ _ rfl X w1) (λ_=>x9 sU (by decide)) rfl
 have h2':dQ.data.toList.isPrefixOf s.data.toList=false:=Bool.eq_false_iff.2 h2;rw[if_neg h2];by_cases h3:(rD++[32]).isPrefixOf s.data.toList=true
 ·rw[if_pos h3];obtain⟨X,hX⟩:∃X,bytesOf (s.data.toList.drop 5)=X:=⟨_,rfl⟩
  have sU:X.size<=1048576:=by have:=hds 5;rw[hX]at this;omega
  have lX:s.data.toList.drop 5=X.data.toList:=by rw[<-hX];simp[bytesOf]
  rw[lX];rcases sD 32 X.data.toList with⟨hc,_⟩|⟨x,r,hxr,_,hc⟩
  ·rw[hc];exact ZQ v L s X ⟨3,X,⟨#[]⟩,[]⟩ false _ w hv hg ht h1' h2' h3 hX (λv1 w1 hv1 ht1=>by obtain⟨a,c,rfl,_⟩:=hv1;exact afK _ _ _ _ rfl X w1 ht1 (by omega) hc) (λh=>by cases h) rfl
  ·rw[hc];have hl:=congrArg List.length hxr;have Cm:X.data.toList.length=X.size:=by simp
   simp only[List.length_append,List.length_cons]at hl;have hxs:(bytesOf x).size<=1048576:=by rw[oD];omega
   have hrs:(bytesOf r).size<=1048576:=by rw[oD];omega
   exact ZQ v L s X ⟨3,bytesOf x,bytesOf r,[]⟩ true _ w hv hg ht h1' h2' h3 hX (λv1 w1 hv1 ht1=>by obtain⟨a,c,rfl,_⟩:=hv1;exact afL _ _ _ _ rfl X x r w1 ht1 (by omega) hc) (λ_=>x9 hxs hrs) rfl
 have h3':fE.data.toList.isPrefixOf s.data.toList=false:=Bool.eq_false_iff.2 h3;rw[if_neg h3];exact afN v L s w hv hg h1' h2' h3'
end Go.Proofs.YtikgblkfmpecfaaGreatDoor
