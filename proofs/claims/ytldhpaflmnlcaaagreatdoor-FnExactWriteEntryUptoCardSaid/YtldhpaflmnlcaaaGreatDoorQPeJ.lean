/-
  The program's ParseEntry, where one of the three words begins the text. By a program of my own (parPe.py).
-/
import Derived.Test.YtldhpaflmnlcaaaGreatDoorQPE
set_option linter.all false
set_option maxRecDepth 100000
set_option maxHeartbeats 8000000
namespace Go.Proofs.YtldhpaflmnlcaaaGreatDoor
open Go.RowKit
theorem implParse_1 (v:Value) (L:List Df) (s X:ByteArray) (e:En) (ok:Bool) (o:Option En) (w:World) (hv:DfsAt w v L) (hg:good L=true) (ht:CutTab w)  (hy:wLet.data.toList.isPrefixOf s.data.toList=true) (hX:bytesOf (s.data.toList.drop wLet.size)=X)
  (hpar:∀ (v1:Value) (w1:World),DfsAt w1 v1 L → CutTab w1 → Calls Tryz.prog 138 #[v1,.string X] w1 (EnP e.kind e.name e.to e.body ok w1)) (he:ok=true → EnOk e) (ho:(if ok=true then checkE L s (some e) else none)=o) :
  Calls Tryz.prog 49 #[v,.string s] w (EntP o w):=by
 obtain ⟨a,cap,rfl⟩:∃ a cap,v=.slice a L.length cap:=by obtain ⟨a,cap,rfl,_⟩:=hv;exact ⟨a,cap,rfl⟩
 obtain ⟨hLo,hLn⟩:=goodLib_okP hg
 have HG:=Lib.hid hg
 have HY:=Lib.hid hy
 have HX:=Lib.hid hX
 have hix0:=fun w=>(kIndex w).1
 have hix1:=fun w=>(kIndex w).2.1
 have hix2:=fun w=>(kIndex w).2.2
 simp only [kV1,kV2,kV3,fv] at hix0 hix1 hix2
 clear hg hy hX
 cases ok with
 | false =>
  have HE:Hid (o=none):=(show _=_ by rw [← ho];simp)
  clear ho
  go_enter Tryz.func49,Tryz.ntmps49
  go_wp2_with (first|(go_at_call 68;refine (isLibrary_any _ L _ (hv.keep (alloc_below _ _)) hLn hLo).mono ?_;rintro e1 w1 ⟨rfl,hb1⟩;rw [HG.out];have hB1:Below (w.heap.size+1) (w.alloc (.cells #[.int .i64 0,.string ⟨#[]⟩,.string ⟨#[]⟩,.slice none 0 0] 54)) w1:=hb1.mono (by simp))|(go_at_call 93;refine (kinds_any _).mono ?_;rintro e2 w2 ⟨rfl,hb2⟩;have hz2:w.heap.size+1≤w2.heap.size:=(by have h1:=hB1.size;have h2:=hb2.size;simp at h1;omega);have hB2:Below (w.heap.size+1) (w.alloc (.cells #[.int .i64 0,.string ⟨#[]⟩,.string ⟨#[]⟩,.slice none 0 0] 54)) w2:=hB1.trans (hb2.mono (by have h1:=hB1.size;simpa using h1));have hv2:DfsAt w2 (.slice a L.length cap) L:=hv.keep ((alloc_below _ _).trans (hB2.mono (by omega)));have ht2:CutTab w2:=ht.keep ((alloc_below _ _).trans (hB2.mono (by omega)));clear hB1 hb1 hb2))
  refine wp_loop_rounds 1 ?_
  rw [rounds_succ]
  go_wp2_with (first|(go_at_call 94;refine (pc_yes (p:=wLet) HY.out).mono ?_;rintro e8 w8 ⟨rfl,rfl⟩;rw [HX.out])|(go_at_call 138;have hA0:Below w2.heap.size w2 w2:=Below.refl _ _;have hA1:=hA0.alloc hA0.size (.cells #[.func (.func 132) #[] #[],.func (.func 133) #[] #[],.func (.func 136) #[] #[],.func (.func 138) #[] #[],.string wLet] 113);refine (hpar _ _ (hv2.keep hA1) (ht2.keep hA1)).mono ?_;rintro e3 w3 ⟨v3,rfl,ho3,hb3⟩;obtain ⟨a3,c3,rfl⟩:=ho3.slice;have hk3:=hA1.trans (hb3.mono hA1.size);have hB3:=hB2.trans (hk3.mono hz2);obtain ⟨r0,r1,r2,r3,rf,hz1,hbw1⟩:=res4 hB3;have hv3:=hv2.keep hk3;have hz3:=hk3.size;clear hb3 hA0 hA1))
  refine bodyPost_ret (v:=.tuple #[.agg #[.int .i64 0,.string ⟨#[]⟩,.string ⟨#[]⟩,.slice none 0 0],.bool false]) (by simp [results,Tryz.results49,go_sem,r0,r1,r2,r3,rf,hz1]) rfl ?_
  rw [HE.out]
  refine entP_none ?_
  (repeat (first|(with_reducible refine Below.alloc ?_ ?_ _;rotate_left;(first|omega|(simp;done)|(simp;omega)))|(with_reducible refine Below.setCell ?_ ?_ _;rotate_left;(first|exact Nat.le_refl _|(simp;done)|(simp;omega)))|(with_reducible refine Below.drew ?_)));exact hbw1
 | true =>
  have hee:=he rfl
  cases hx:textO L e with
  | none =>
   have HE:Hid (o=none):=(show _=_ by rw [← ho,if_pos rfl];exact check_text_none hx)
   have HT:=Lib.hid hx
   clear hx ho he
   go_enter Tryz.func49,Tryz.ntmps49
   go_wp2_with (first|(go_at_call 68;refine (isLibrary_any _ L _ (hv.keep (alloc_below _ _)) hLn hLo).mono ?_;rintro e1 w1 ⟨rfl,hb1⟩;rw [HG.out];have hB1:Below (w.heap.size+1) (w.alloc (.cells #[.int .i64 0,.string ⟨#[]⟩,.string ⟨#[]⟩,.slice none 0 0] 54)) w1:=hb1.mono (by simp))|(go_at_call 93;refine (kinds_any _).mono ?_;rintro e2 w2 ⟨rfl,hb2⟩;have hz2:w.heap.size+1≤w2.heap.size:=(by have h1:=hB1.size;have h2:=hb2.size;simp at h1;omega);have hB2:Below (w.heap.size+1) (w.alloc (.cells #[.int .i64 0,.string ⟨#[]⟩,.string ⟨#[]⟩,.slice none 0 0] 54)) w2:=hB1.trans (hb2.mono (by have h1:=hB1.size;simpa using h1));have hv2:DfsAt w2 (.slice a L.length cap) L:=hv.keep ((alloc_below _ _).trans (hB2.mono (by omega)));have ht2:CutTab w2:=ht.keep ((alloc_below _ _).trans (hB2.mono (by omega)));clear hB1 hb1 hb2))
   refine wp_loop_rounds 1 ?_
   rw [rounds_succ]
   go_wp2_with (first|(go_at_call 94;refine (pc_yes (p:=wLet) HY.out).mono ?_;rintro e8 w8 ⟨rfl,rfl⟩;rw [HX.out])|(go_at_call 138;have hA0:Below w2.heap.size w2 w2:=Below.refl _ _;have hA1:=hA0.alloc hA0.size (.cells #[.func (.func 132) #[] #[],.func (.func 133) #[] #[],.func (.func 136) #[] #[],.func (.func 138) #[] #[],.string wLet] 113);refine (hpar _ _ (hv2.keep hA1) (ht2.keep hA1)).mono ?_;rintro e3 w3 ⟨v3,rfl,ho3,hb3⟩;obtain ⟨a3,c3,rfl⟩:=ho3.slice;have hk3:=hA1.trans (hb3.mono hA1.size);have hB3:=hB2.trans (hk3.mono hz2);obtain ⟨r0,r1,r2,r3,rf,hz1,hbw1⟩:=res4 hB3;have hv3:=hv2.keep hk3;have hz3:=hk3.size;clear hb3 hA0 hA1))
   refine (implText_any _ _ L e _ (hv3.keep (alloc_below _ _)) hLn hLo (ho3.at.keep (alloc_below _ _)) hee).mono ?_
   rintro e4 w4 ⟨rfl,hb4⟩
   rw [HT.out]
   have hC4:Below (w3.heap.size+1) (w3.alloc (.cells #[.int .i64 e.kind,.string e.name,.string e.to,.slice a3 e.body.length c3] 54)) w4:=hb4.mono (by simp)
   have hB4:=hB3.trans (((alloc_below w3 (.cells #[.int .i64 e.kind,.string e.name,.string e.to,.slice a3 e.body.length c3] 54)).trans (hC4.mono (by omega))).mono (by omega))
   obtain ⟨x0,x1,x2,x3,xz,hk4⟩:=box4 hC4
   clear r0 r1 r2 r3 rf hz1 hbw1
   obtain ⟨r0,r1,r2,r3,rf,hz1,hbw1⟩:=res4 hB4
   simp only [Option.isSome_none,Option.isSome_some,Option.getD_none,Option.getD_some]
   go_wp2
   refine bodyPost_ret (v:=.tuple #[.agg #[.int .i64 0,.string ⟨#[]⟩,.string ⟨#[]⟩,.slice none 0 0],.bool false]) (by simp [results,Tryz.results49,go_sem,r0,r1,r2,r3,rf,hz1]) rfl ?_
   rw [HE.out]
   refine entP_none ?_
   (repeat (first|(with_reducible refine Below.alloc ?_ ?_ _;rotate_left;(first|omega|(simp;done)|(simp;omega)))|(with_reducible refine Below.setCell ?_ ?_ _;rotate_left;(first|exact Nat.le_refl _|(simp;done)|(simp;omega)))|(with_reducible refine Below.drew ?_)));exact hbw1
  | some tx =>
   by_cases htx:tx=s
   ·subst htx
    have HE:Hid (o=some e):=(show _=_ by rw [← ho,if_pos rfl];exact check_text_some hx)
    have HT:=Lib.hid hx
    clear hx ho he
    go_enter Tryz.func49,Tryz.ntmps49
    go_wp2_with (first|(go_at_call 68;refine (isLibrary_any _ L _ (hv.keep (alloc_below _ _)) hLn hLo).mono ?_;rintro e1 w1 ⟨rfl,hb1⟩;rw [HG.out];have hB1:Below (w.heap.size+1) (w.alloc (.cells #[.int .i64 0,.string ⟨#[]⟩,.string ⟨#[]⟩,.slice none 0 0] 54)) w1:=hb1.mono (by simp))|(go_at_call 93;refine (kinds_any _).mono ?_;rintro e2 w2 ⟨rfl,hb2⟩;have hz2:w.heap.size+1≤w2.heap.size:=(by have h1:=hB1.size;have h2:=hb2.size;simp at h1;omega);have hB2:Below (w.heap.size+1) (w.alloc (.cells #[.int .i64 0,.string ⟨#[]⟩,.string ⟨#[]⟩,.slice none 0 0] 54)) w2:=hB1.trans (hb2.mono (by have h1:=hB1.size;simpa using h1));have hv2:DfsAt w2 (.slice a L.length cap) L:=hv.keep ((alloc_below _ _).trans (hB2.mono (by omega)));have ht2:CutTab w2:=ht.keep ((alloc_below _ _).trans (hB2.mono (by omega)));clear hB1 hb1 hb2))
    refine wp_loop_rounds 1 ?_
    rw [rounds_succ]
    go_wp2_with (first|(go_at_call 94;refine (pc_yes (p:=wLet) HY.out).mono ?_;rintro e8 w8 ⟨rfl,rfl⟩;rw [HX.out])|(go_at_call 138;have hA0:Below w2.heap.size w2 w2:=Below.refl _ _;have hA1:=hA0.alloc hA0.size (.cells #[.func (.func 132) #[] #[],.func (.func 133) #[] #[],.func (.func 136) #[] #[],.func (.func 138) #[] #[],.string wLet] 113);refine (hpar _ _ (hv2.keep hA1) (ht2.keep hA1)).mono ?_;rintro e3 w3 ⟨v3,rfl,ho3,hb3⟩;obtain ⟨a3,c3,rfl⟩:=ho3.slice;have hk3:=hA1.trans (hb3.mono hA1.size);have hB3:=hB2.trans (hk3.mono hz2);obtain ⟨r0,r1,r2,r3,rf,hz1,hbw1⟩:=res4 hB3;have hv3:=hv2.keep hk3;have hz3:=hk3.size;clear hb3 hA0 hA1))
    refine (implText_any _ _ L e _ (hv3.keep (alloc_below _ _)) hLn hLo (ho3.at.keep (alloc_below _ _)) hee).mono ?_
    rintro e4 w4 ⟨rfl,hb4⟩
    rw [HT.out]
    have hC4:Below (w3.heap.size+1) (w3.alloc (.cells #[.int .i64 e.kind,.string e.name,.string e.to,.slice a3 e.body.length c3] 54)) w4:=hb4.mono (by simp)
    have hB4:=hB3.trans (((alloc_below w3 (.cells #[.int .i64 e.kind,.string e.name,.string e.to,.slice a3 e.body.length c3] 54)).trans (hC4.mono (by omega))).mono (by omega))
    obtain ⟨x0,x1,x2,x3,xz,hk4⟩:=box4 hC4
    clear r0 r1 r2 r3 rf hz1 hbw1
    obtain ⟨r0,r1,r2,r3,rf,hz1,hbw1⟩:=res4 hB4
    simp only [Option.isSome_none,Option.isSome_some,Option.getD_none,Option.getD_some]
    go_wp2
    refine bodyPost_ret (v:=.tuple #[.agg #[.int .i64 e.kind,.string e.name,.string e.to,.slice a3 e.body.length c3],.bool true]) (by simp [results,Tryz.results49,go_sem,r0,r1,r2,r3,rf,hz1]) rfl ?_
    rw [HE.out]
    refine ⟨_,rfl,?_,?_⟩
    ·have ho4:=(ho3.keep (alloc_below _ _)).keep hb4
     exact NdsOwn.mono (B:=w.heap.size+1) (by omega) (((((ho4.mono (by simp;omega)).setLow (a:=⟨w.heap.size,0,none⟩) (by simp) _).setLow (a:=⟨w.heap.size,1,none⟩) (by simp) _).setLow (a:=⟨w.heap.size,2,none⟩) (by simp) _).setLow (a:=⟨w.heap.size,3,none⟩) (by simp) _)
    ·(repeat (first|(with_reducible refine Below.alloc ?_ ?_ _;rotate_left;(first|omega|(simp;done)|(simp;omega)))|(with_reducible refine Below.setCell ?_ ?_ _;rotate_left;(first|exact Nat.le_refl _|(simp;done)|(simp;omega)))|(with_reducible refine Below.drew ?_)));exact hbw1
   ·have HE:Hid (o=none):=(show _=_ by rw [← ho,if_pos rfl];exact check_text_other hx htx)
    have g1:=str_ne htx
    have HT:=Lib.hid hx
    clear hx ho he htx
    go_enter Tryz.func49,Tryz.ntmps49
    go_wp2_with (first|(go_at_call 68;refine (isLibrary_any _ L _ (hv.keep (alloc_below _ _)) hLn hLo).mono ?_;rintro e1 w1 ⟨rfl,hb1⟩;rw [HG.out];have hB1:Below (w.heap.size+1) (w.alloc (.cells #[.int .i64 0,.string ⟨#[]⟩,.string ⟨#[]⟩,.slice none 0 0] 54)) w1:=hb1.mono (by simp))|(go_at_call 93;refine (kinds_any _).mono ?_;rintro e2 w2 ⟨rfl,hb2⟩;have hz2:w.heap.size+1≤w2.heap.size:=(by have h1:=hB1.size;have h2:=hb2.size;simp at h1;omega);have hB2:Below (w.heap.size+1) (w.alloc (.cells #[.int .i64 0,.string ⟨#[]⟩,.string ⟨#[]⟩,.slice none 0 0] 54)) w2:=hB1.trans (hb2.mono (by have h1:=hB1.size;simpa using h1));have hv2:DfsAt w2 (.slice a L.length cap) L:=hv.keep ((alloc_below _ _).trans (hB2.mono (by omega)));have ht2:CutTab w2:=ht.keep ((alloc_below _ _).trans (hB2.mono (by omega)));clear hB1 hb1 hb2))
    refine wp_loop_rounds 1 ?_
    rw [rounds_succ]
    go_wp2_with (first|(go_at_call 94;refine (pc_yes (p:=wLet) HY.out).mono ?_;rintro e8 w8 ⟨rfl,rfl⟩;rw [HX.out])|(go_at_call 138;have hA0:Below w2.heap.size w2 w2:=Below.refl _ _;have hA1:=hA0.alloc hA0.size (.cells #[.func (.func 132) #[] #[],.func (.func 133) #[] #[],.func (.func 136) #[] #[],.func (.func 138) #[] #[],.string wLet] 113);refine (hpar _ _ (hv2.keep hA1) (ht2.keep hA1)).mono ?_;rintro e3 w3 ⟨v3,rfl,ho3,hb3⟩;obtain ⟨a3,c3,rfl⟩:=ho3.slice;have hk3:=hA1.trans (hb3.mono hA1.size);have hB3:=hB2.trans (hk3.mono hz2);obtain ⟨r0,r1,r2,r3,rf,hz1,hbw1⟩:=res4 hB3;have hv3:=hv2.keep hk3;have hz3:=hk3.size;clear hb3 hA0 hA1))
    refine (implText_any _ _ L e _ (hv3.keep (alloc_below _ _)) hLn hLo (ho3.at.keep (alloc_below _ _)) hee).mono ?_
    rintro e4 w4 ⟨rfl,hb4⟩
    rw [HT.out]
    have hC4:Below (w3.heap.size+1) (w3.alloc (.cells #[.int .i64 e.kind,.string e.name,.string e.to,.slice a3 e.body.length c3] 54)) w4:=hb4.mono (by simp)
    have hB4:=hB3.trans (((alloc_below w3 (.cells #[.int .i64 e.kind,.string e.name,.string e.to,.slice a3 e.body.length c3] 54)).trans (hC4.mono (by omega))).mono (by omega))
    obtain ⟨x0,x1,x2,x3,xz,hk4⟩:=box4 hC4
    clear r0 r1 r2 r3 rf hz1 hbw1
    obtain ⟨r0,r1,r2,r3,rf,hz1,hbw1⟩:=res4 hB4
    simp only [Option.isSome_none,Option.isSome_some,Option.getD_none,Option.getD_some]
    go_wp2
    refine bodyPost_ret (v:=.tuple #[.agg #[.int .i64 0,.string ⟨#[]⟩,.string ⟨#[]⟩,.slice none 0 0],.bool false]) (by simp [results,Tryz.results49,go_sem,r0,r1,r2,r3,rf,hz1]) rfl ?_
    rw [HE.out]
    refine entP_none ?_
    (repeat (first|(with_reducible refine Below.alloc ?_ ?_ _;rotate_left;(first|omega|(simp;done)|(simp;omega)))|(with_reducible refine Below.setCell ?_ ?_ _;rotate_left;(first|exact Nat.le_refl _|(simp;done)|(simp;omega)))|(with_reducible refine Below.drew ?_)));exact hbw1
theorem implParse_2 (v:Value) (L:List Df) (s X:ByteArray) (e:En) (ok:Bool) (o:Option En) (w:World) (hv:DfsAt w v L) (hg:good L=true) (ht:CutTab w) (h1:wLet.data.toList.isPrefixOf s.data.toList=false) (hy:wDrop.data.toList.isPrefixOf s.data.toList=true) (hX:bytesOf (s.data.toList.drop wDrop.size)=X)
  (hpar:∀ (v1:Value) (w1:World),DfsAt w1 v1 L → CutTab w1 → Calls Tryz.prog 143 #[v1,.string X] w1 (EnP e.kind e.name e.to e.body ok w1)) (he:ok=true → EnOk e) (ho:(if ok=true then checkE L s (some e) else none)=o) :
  Calls Tryz.prog 49 #[v,.string s] w (EntP o w):=by
 obtain ⟨a,cap,rfl⟩:∃ a cap,v=.slice a L.length cap:=by obtain ⟨a,cap,rfl,_⟩:=hv;exact ⟨a,cap,rfl⟩
 obtain ⟨hLo,hLn⟩:=goodLib_okP hg
 have HG:=Lib.hid hg
 have HY:=Lib.hid hy
 have HX:=Lib.hid hX
 have HN1:=Lib.hid h1
 have hix0:=fun w=>(kIndex w).1
 have hix1:=fun w=>(kIndex w).2.1
 have hix2:=fun w=>(kIndex w).2.2
 simp only [kV1,kV2,kV3,fv] at hix0 hix1 hix2
 clear hg hy hX h1
 cases ok with
 | false =>
  have HE:Hid (o=none):=(show _=_ by rw [← ho];simp)
  clear ho
  go_enter Tryz.func49,Tryz.ntmps49
  go_wp2_with (first|(go_at_call 68;refine (isLibrary_any _ L _ (hv.keep (alloc_below _ _)) hLn hLo).mono ?_;rintro e1 w1 ⟨rfl,hb1⟩;rw [HG.out];have hB1:Below (w.heap.size+1) (w.alloc (.cells #[.int .i64 0,.string ⟨#[]⟩,.string ⟨#[]⟩,.slice none 0 0] 54)) w1:=hb1.mono (by simp))|(go_at_call 93;refine (kinds_any _).mono ?_;rintro e2 w2 ⟨rfl,hb2⟩;have hz2:w.heap.size+1≤w2.heap.size:=(by have h1:=hB1.size;have h2:=hb2.size;simp at h1;omega);have hB2:Below (w.heap.size+1) (w.alloc (.cells #[.int .i64 0,.string ⟨#[]⟩,.string ⟨#[]⟩,.slice none 0 0] 54)) w2:=hB1.trans (hb2.mono (by have h1:=hB1.size;simpa using h1));have hv2:DfsAt w2 (.slice a L.length cap) L:=hv.keep ((alloc_below _ _).trans (hB2.mono (by omega)));have ht2:CutTab w2:=ht.keep ((alloc_below _ _).trans (hB2.mono (by omega)));clear hB1 hb1 hb2))
  refine wp_loop_rounds 2 ?_
  rw [rounds_succ]
  go_wp2_with (go_at_call 94;refine (pc_no (p:=wLet) HN1.out).mono ?_;rintro e8 w8 ⟨rfl,rfl⟩)
  rw [rounds_succ]
  go_wp2_with (first|(go_at_call 94;refine (pc_yes (p:=wDrop) HY.out).mono ?_;rintro e8 w8 ⟨rfl,rfl⟩;rw [HX.out])|(go_at_call 143;have hA0:Below w2.heap.size w2 w2:=Below.refl _ _;have hA1:=hA0.alloc hA0.size (.cells #[.func (.func 132) #[] #[],.func (.func 133) #[] #[],.func (.func 136) #[] #[],.func (.func 138) #[] #[],.string wLet] 113);have hA2:=hA1.alloc hA1.size (.cells #[.func (.func 139) #[] #[],.func (.func 140) #[] #[],.func (.func 142) #[] #[],.func (.func 143) #[] #[],.string wDrop] 113);refine (hpar _ _ (hv2.keep hA2) (ht2.keep hA2)).mono ?_;rintro e3 w3 ⟨v3,rfl,ho3,hb3⟩;obtain ⟨a3,c3,rfl⟩:=ho3.slice;have hk3:=hA2.trans (hb3.mono hA2.size);have hB3:=hB2.trans (hk3.mono hz2);obtain ⟨r0,r1,r2,r3,rf,hz1,hbw1⟩:=res4 hB3;have hv3:=hv2.keep hk3;have hz3:=hk3.size;clear hb3 hA0 hA1 hA2))
  refine bodyPost_ret (v:=.tuple #[.agg #[.int .i64 0,.string ⟨#[]⟩,.string ⟨#[]⟩,.slice none 0 0],.bool false]) (by simp [results,Tryz.results49,go_sem,r0,r1,r2,r3,rf,hz1]) rfl ?_
  rw [HE.out]
  refine entP_none ?_
  (repeat (first|(with_reducible refine Below.alloc ?_ ?_ _;rotate_left;(first|omega|(simp;done)|(simp;omega)))|(with_reducible refine Below.setCell ?_ ?_ _;rotate_left;(first|exact Nat.le_refl _|(simp;done)|(simp;omega)))|(with_reducible refine Below.drew ?_)));exact hbw1
 | true =>
  have hee:=he rfl
  cases hx:textO L e with
  | none =>
   have HE:Hid (o=none):=(show _=_ by rw [← ho,if_pos rfl];exact check_text_none hx)
   have HT:=Lib.hid hx
   clear hx ho he
   go_enter Tryz.func49,Tryz.ntmps49
   go_wp2_with (first|(go_at_call 68;refine (isLibrary_any _ L _ (hv.keep (alloc_below _ _)) hLn hLo).mono ?_;rintro e1 w1 ⟨rfl,hb1⟩;rw [HG.out];have hB1:Below (w.heap.size+1) (w.alloc (.cells #[.int .i64 0,.string ⟨#[]⟩,.string ⟨#[]⟩,.slice none 0 0] 54)) w1:=hb1.mono (by simp))|(go_at_call 93;refine (kinds_any _).mono ?_;rintro e2 w2 ⟨rfl,hb2⟩;have hz2:w.heap.size+1≤w2.heap.size:=(by have h1:=hB1.size;have h2:=hb2.size;simp at h1;omega);have hB2:Below (w.heap.size+1) (w.alloc (.cells #[.int .i64 0,.string ⟨#[]⟩,.string ⟨#[]⟩,.slice none 0 0] 54)) w2:=hB1.trans (hb2.mono (by have h1:=hB1.size;simpa using h1));have hv2:DfsAt w2 (.slice a L.length cap) L:=hv.keep ((alloc_below _ _).trans (hB2.mono (by omega)));have ht2:CutTab w2:=ht.keep ((alloc_below _ _).trans (hB2.mono (by omega)));clear hB1 hb1 hb2))
   refine wp_loop_rounds 2 ?_
   rw [rounds_succ]
   go_wp2_with (go_at_call 94;refine (pc_no (p:=wLet) HN1.out).mono ?_;rintro e8 w8 ⟨rfl,rfl⟩)
   rw [rounds_succ]
   go_wp2_with (first|(go_at_call 94;refine (pc_yes (p:=wDrop) HY.out).mono ?_;rintro e8 w8 ⟨rfl,rfl⟩;rw [HX.out])|(go_at_call 143;have hA0:Below w2.heap.size w2 w2:=Below.refl _ _;have hA1:=hA0.alloc hA0.size (.cells #[.func (.func 132) #[] #[],.func (.func 133) #[] #[],.func (.func 136) #[] #[],.func (.func 138) #[] #[],.string wLet] 113);have hA2:=hA1.alloc hA1.size (.cells #[.func (.func 139) #[] #[],.func (.func 140) #[] #[],.func (.func 142) #[] #[],.func (.func 143) #[] #[],.string wDrop] 113);refine (hpar _ _ (hv2.keep hA2) (ht2.keep hA2)).mono ?_;rintro e3 w3 ⟨v3,rfl,ho3,hb3⟩;obtain ⟨a3,c3,rfl⟩:=ho3.slice;have hk3:=hA2.trans (hb3.mono hA2.size);have hB3:=hB2.trans (hk3.mono hz2);obtain ⟨r0,r1,r2,r3,rf,hz1,hbw1⟩:=res4 hB3;have hv3:=hv2.keep hk3;have hz3:=hk3.size;clear hb3 hA0 hA1 hA2))
   refine (implText_any _ _ L e _ (hv3.keep (alloc_below _ _)) hLn hLo (ho3.at.keep (alloc_below _ _)) hee).mono ?_
   rintro e4 w4 ⟨rfl,hb4⟩
   rw [HT.out]
   have hC4:Below (w3.heap.size+1) (w3.alloc (.cells #[.int .i64 e.kind,.string e.name,.string e.to,.slice a3 e.body.length c3] 54)) w4:=hb4.mono (by simp)
   have hB4:=hB3.trans (((alloc_below w3 (.cells #[.int .i64 e.kind,.string e.name,.string e.to,.slice a3 e.body.length c3] 54)).trans (hC4.mono (by omega))).mono (by omega))
   obtain ⟨x0,x1,x2,x3,xz,hk4⟩:=box4 hC4
   clear r0 r1 r2 r3 rf hz1 hbw1
   obtain ⟨r0,r1,r2,r3,rf,hz1,hbw1⟩:=res4 hB4
   simp only [Option.isSome_none,Option.isSome_some,Option.getD_none,Option.getD_some]
   go_wp2
   refine bodyPost_ret (v:=.tuple #[.agg #[.int .i64 0,.string ⟨#[]⟩,.string ⟨#[]⟩,.slice none 0 0],.bool false]) (by simp [results,Tryz.results49,go_sem,r0,r1,r2,r3,rf,hz1]) rfl ?_
   rw [HE.out]
   refine entP_none ?_
   (repeat (first|(with_reducible refine Below.alloc ?_ ?_ _;rotate_left;(first|omega|(simp;done)|(simp;omega)))|(with_reducible refine Below.setCell ?_ ?_ _;rotate_left;(first|exact Nat.le_refl _|(simp;done)|(simp;omega)))|(with_reducible refine Below.drew ?_)));exact hbw1
  | some tx =>
   by_cases htx:tx=s
   ·subst htx
    have HE:Hid (o=some e):=(show _=_ by rw [← ho,if_pos rfl];exact check_text_some hx)
    have HT:=Lib.hid hx
    clear hx ho he
    go_enter Tryz.func49,Tryz.ntmps49
    go_wp2_with (first|(go_at_call 68;refine (isLibrary_any _ L _ (hv.keep (alloc_below _ _)) hLn hLo).mono ?_;rintro e1 w1 ⟨rfl,hb1⟩;rw [HG.out];have hB1:Below (w.heap.size+1) (w.alloc (.cells #[.int .i64 0,.string ⟨#[]⟩,.string ⟨#[]⟩,.slice none 0 0] 54)) w1:=hb1.mono (by simp))|(go_at_call 93;refine (kinds_any _).mono ?_;rintro e2 w2 ⟨rfl,hb2⟩;have hz2:w.heap.size+1≤w2.heap.size:=(by have h1:=hB1.size;have h2:=hb2.size;simp at h1;omega);have hB2:Below (w.heap.size+1) (w.alloc (.cells #[.int .i64 0,.string ⟨#[]⟩,.string ⟨#[]⟩,.slice none 0 0] 54)) w2:=hB1.trans (hb2.mono (by have h1:=hB1.size;simpa using h1));have hv2:DfsAt w2 (.slice a L.length cap) L:=hv.keep ((alloc_below _ _).trans (hB2.mono (by omega)));have ht2:CutTab w2:=ht.keep ((alloc_below _ _).trans (hB2.mono (by omega)));clear hB1 hb1 hb2))
    refine wp_loop_rounds 2 ?_
    rw [rounds_succ]
    go_wp2_with (go_at_call 94;refine (pc_no (p:=wLet) HN1.out).mono ?_;rintro e8 w8 ⟨rfl,rfl⟩)
    rw [rounds_succ]
    go_wp2_with (first|(go_at_call 94;refine (pc_yes (p:=wDrop) HY.out).mono ?_;rintro e8 w8 ⟨rfl,rfl⟩;rw [HX.out])|(go_at_call 143;have hA0:Below w2.heap.size w2 w2:=Below.refl _ _;have hA1:=hA0.alloc hA0.size (.cells #[.func (.func 132) #[] #[],.func (.func 133) #[] #[],.func (.func 136) #[] #[],.func (.func 138) #[] #[],.string wLet] 113);have hA2:=hA1.alloc hA1.size (.cells #[.func (.func 139) #[] #[],.func (.func 140) #[] #[],.func (.func 142) #[] #[],.func (.func 143) #[] #[],.string wDrop] 113);refine (hpar _ _ (hv2.keep hA2) (ht2.keep hA2)).mono ?_;rintro e3 w3 ⟨v3,rfl,ho3,hb3⟩;obtain ⟨a3,c3,rfl⟩:=ho3.slice;have hk3:=hA2.trans (hb3.mono hA2.size);have hB3:=hB2.trans (hk3.mono hz2);obtain ⟨r0,r1,r2,r3,rf,hz1,hbw1⟩:=res4 hB3;have hv3:=hv2.keep hk3;have hz3:=hk3.size;clear hb3 hA0 hA1 hA2))
    refine (implText_any _ _ L e _ (hv3.keep (alloc_below _ _)) hLn hLo (ho3.at.keep (alloc_below _ _)) hee).mono ?_
    rintro e4 w4 ⟨rfl,hb4⟩
    rw [HT.out]
    have hC4:Below (w3.heap.size+1) (w3.alloc (.cells #[.int .i64 e.kind,.string e.name,.string e.to,.slice a3 e.body.length c3] 54)) w4:=hb4.mono (by simp)
    have hB4:=hB3.trans (((alloc_below w3 (.cells #[.int .i64 e.kind,.string e.name,.string e.to,.slice a3 e.body.length c3] 54)).trans (hC4.mono (by omega))).mono (by omega))
    obtain ⟨x0,x1,x2,x3,xz,hk4⟩:=box4 hC4
    clear r0 r1 r2 r3 rf hz1 hbw1
    obtain ⟨r0,r1,r2,r3,rf,hz1,hbw1⟩:=res4 hB4
    simp only [Option.isSome_none,Option.isSome_some,Option.getD_none,Option.getD_some]
    go_wp2
    refine bodyPost_ret (v:=.tuple #[.agg #[.int .i64 e.kind,.string e.name,.string e.to,.slice a3 e.body.length c3],.bool true]) (by simp [results,Tryz.results49,go_sem,r0,r1,r2,r3,rf,hz1]) rfl ?_
    rw [HE.out]
    refine ⟨_,rfl,?_,?_⟩
    ·have ho4:=(ho3.keep (alloc_below _ _)).keep hb4
     exact NdsOwn.mono (B:=w.heap.size+1) (by omega) (((((ho4.mono (by simp;omega)).setLow (a:=⟨w.heap.size,0,none⟩) (by simp) _).setLow (a:=⟨w.heap.size,1,none⟩) (by simp) _).setLow (a:=⟨w.heap.size,2,none⟩) (by simp) _).setLow (a:=⟨w.heap.size,3,none⟩) (by simp) _)
    ·(repeat (first|(with_reducible refine Below.alloc ?_ ?_ _;rotate_left;(first|omega|(simp;done)|(simp;omega)))|(with_reducible refine Below.setCell ?_ ?_ _;rotate_left;(first|exact Nat.le_refl _|(simp;done)|(simp;omega)))|(with_reducible refine Below.drew ?_)));exact hbw1
   ·have HE:Hid (o=none):=(show _=_ by rw [← ho,if_pos rfl];exact check_text_other hx htx)
    have g1:=str_ne htx
    have HT:=Lib.hid hx
    clear hx ho he htx
    go_enter Tryz.func49,Tryz.ntmps49
    go_wp2_with (first|(go_at_call 68;refine (isLibrary_any _ L _ (hv.keep (alloc_below _ _)) hLn hLo).mono ?_;rintro e1 w1 ⟨rfl,hb1⟩;rw [HG.out];have hB1:Below (w.heap.size+1) (w.alloc (.cells #[.int .i64 0,.string ⟨#[]⟩,.string ⟨#[]⟩,.slice none 0 0] 54)) w1:=hb1.mono (by simp))|(go_at_call 93;refine (kinds_any _).mono ?_;rintro e2 w2 ⟨rfl,hb2⟩;have hz2:w.heap.size+1≤w2.heap.size:=(by have h1:=hB1.size;have h2:=hb2.size;simp at h1;omega);have hB2:Below (w.heap.size+1) (w.alloc (.cells #[.int .i64 0,.string ⟨#[]⟩,.string ⟨#[]⟩,.slice none 0 0] 54)) w2:=hB1.trans (hb2.mono (by have h1:=hB1.size;simpa using h1));have hv2:DfsAt w2 (.slice a L.length cap) L:=hv.keep ((alloc_below _ _).trans (hB2.mono (by omega)));have ht2:CutTab w2:=ht.keep ((alloc_below _ _).trans (hB2.mono (by omega)));clear hB1 hb1 hb2))
    refine wp_loop_rounds 2 ?_
    rw [rounds_succ]
    go_wp2_with (go_at_call 94;refine (pc_no (p:=wLet) HN1.out).mono ?_;rintro e8 w8 ⟨rfl,rfl⟩)
    rw [rounds_succ]
    go_wp2_with (first|(go_at_call 94;refine (pc_yes (p:=wDrop) HY.out).mono ?_;rintro e8 w8 ⟨rfl,rfl⟩;rw [HX.out])|(go_at_call 143;have hA0:Below w2.heap.size w2 w2:=Below.refl _ _;have hA1:=hA0.alloc hA0.size (.cells #[.func (.func 132) #[] #[],.func (.func 133) #[] #[],.func (.func 136) #[] #[],.func (.func 138) #[] #[],.string wLet] 113);have hA2:=hA1.alloc hA1.size (.cells #[.func (.func 139) #[] #[],.func (.func 140) #[] #[],.func (.func 142) #[] #[],.func (.func 143) #[] #[],.string wDrop] 113);refine (hpar _ _ (hv2.keep hA2) (ht2.keep hA2)).mono ?_;rintro e3 w3 ⟨v3,rfl,ho3,hb3⟩;obtain ⟨a3,c3,rfl⟩:=ho3.slice;have hk3:=hA2.trans (hb3.mono hA2.size);have hB3:=hB2.trans (hk3.mono hz2);obtain ⟨r0,r1,r2,r3,rf,hz1,hbw1⟩:=res4 hB3;have hv3:=hv2.keep hk3;have hz3:=hk3.size;clear hb3 hA0 hA1 hA2))
    refine (implText_any _ _ L e _ (hv3.keep (alloc_below _ _)) hLn hLo (ho3.at.keep (alloc_below _ _)) hee).mono ?_
    rintro e4 w4 ⟨rfl,hb4⟩
    rw [HT.out]
    have hC4:Below (w3.heap.size+1) (w3.alloc (.cells #[.int .i64 e.kind,.string e.name,.string e.to,.slice a3 e.body.length c3] 54)) w4:=hb4.mono (by simp)
    have hB4:=hB3.trans (((alloc_below w3 (.cells #[.int .i64 e.kind,.string e.name,.string e.to,.slice a3 e.body.length c3] 54)).trans (hC4.mono (by omega))).mono (by omega))
    obtain ⟨x0,x1,x2,x3,xz,hk4⟩:=box4 hC4
    clear r0 r1 r2 r3 rf hz1 hbw1
    obtain ⟨r0,r1,r2,r3,rf,hz1,hbw1⟩:=res4 hB4
    simp only [Option.isSome_none,Option.isSome_some,Option.getD_none,Option.getD_some]
    go_wp2
    refine bodyPost_ret (v:=.tuple #[.agg #[.int .i64 0,.string ⟨#[]⟩,.string ⟨#[]⟩,.slice none 0 0],.bool false]) (by simp [results,Tryz.results49,go_sem,r0,r1,r2,r3,rf,hz1]) rfl ?_
    rw [HE.out]
    refine entP_none ?_
    (repeat (first|(with_reducible refine Below.alloc ?_ ?_ _;rotate_left;(first|omega|(simp;done)|(simp;omega)))|(with_reducible refine Below.setCell ?_ ?_ _;rotate_left;(first|exact Nat.le_refl _|(simp;done)|(simp;omega)))|(with_reducible refine Below.drew ?_)));exact hbw1
theorem implParse_3 (v:Value) (L:List Df) (s X:ByteArray) (e:En) (ok:Bool) (o:Option En) (w:World) (hv:DfsAt w v L) (hg:good L=true) (ht:CutTab w) (h1:wLet.data.toList.isPrefixOf s.data.toList=false) (h2:wDrop.data.toList.isPrefixOf s.data.toList=false) (hy:wName.data.toList.isPrefixOf s.data.toList=true) (hX:bytesOf (s.data.toList.drop wName.size)=X)
  (hpar:∀ (v1:Value) (w1:World),DfsAt w1 v1 L → CutTab w1 → Calls Tryz.prog 148 #[v1,.string X] w1 (EnP e.kind e.name e.to e.body ok w1)) (he:ok=true → EnOk e) (ho:(if ok=true then checkE L s (some e) else none)=o) :
  Calls Tryz.prog 49 #[v,.string s] w (EntP o w):=by
 obtain ⟨a,cap,rfl⟩:∃ a cap,v=.slice a L.length cap:=by obtain ⟨a,cap,rfl,_⟩:=hv;exact ⟨a,cap,rfl⟩
 obtain ⟨hLo,hLn⟩:=goodLib_okP hg
 have HG:=Lib.hid hg
 have HY:=Lib.hid hy
 have HX:=Lib.hid hX
 have HN1:=Lib.hid h1
 have HN2:=Lib.hid h2
 have hix0:=fun w=>(kIndex w).1
 have hix1:=fun w=>(kIndex w).2.1
 have hix2:=fun w=>(kIndex w).2.2
 simp only [kV1,kV2,kV3,fv] at hix0 hix1 hix2
 clear hg hy hX h1 h2
 cases ok with
 | false =>
  have HE:Hid (o=none):=(show _=_ by rw [← ho];simp)
  clear ho
  go_enter Tryz.func49,Tryz.ntmps49
  go_wp2_with (first|(go_at_call 68;refine (isLibrary_any _ L _ (hv.keep (alloc_below _ _)) hLn hLo).mono ?_;rintro e1 w1 ⟨rfl,hb1⟩;rw [HG.out];have hB1:Below (w.heap.size+1) (w.alloc (.cells #[.int .i64 0,.string ⟨#[]⟩,.string ⟨#[]⟩,.slice none 0 0] 54)) w1:=hb1.mono (by simp))|(go_at_call 93;refine (kinds_any _).mono ?_;rintro e2 w2 ⟨rfl,hb2⟩;have hz2:w.heap.size+1≤w2.heap.size:=(by have h1:=hB1.size;have h2:=hb2.size;simp at h1;omega);have hB2:Below (w.heap.size+1) (w.alloc (.cells #[.int .i64 0,.string ⟨#[]⟩,.string ⟨#[]⟩,.slice none 0 0] 54)) w2:=hB1.trans (hb2.mono (by have h1:=hB1.size;simpa using h1));have hv2:DfsAt w2 (.slice a L.length cap) L:=hv.keep ((alloc_below _ _).trans (hB2.mono (by omega)));have ht2:CutTab w2:=ht.keep ((alloc_below _ _).trans (hB2.mono (by omega)));clear hB1 hb1 hb2))
  refine wp_loop_rounds 3 ?_
  rw [rounds_succ]
  go_wp2_with (go_at_call 94;refine (pc_no (p:=wLet) HN1.out).mono ?_;rintro e8 w8 ⟨rfl,rfl⟩)
  rw [rounds_succ]
  go_wp2_with (go_at_call 94;refine (pc_no (p:=wDrop) HN2.out).mono ?_;rintro e8 w8 ⟨rfl,rfl⟩)
  rw [rounds_succ]
  go_wp2_with (first|(go_at_call 94;refine (pc_yes (p:=wName) HY.out).mono ?_;rintro e8 w8 ⟨rfl,rfl⟩;rw [HX.out])|(go_at_call 148;have hA0:Below w2.heap.size w2 w2:=Below.refl _ _;have hA1:=hA0.alloc hA0.size (.cells #[.func (.func 132) #[] #[],.func (.func 133) #[] #[],.func (.func 136) #[] #[],.func (.func 138) #[] #[],.string wLet] 113);have hA2:=hA1.alloc hA1.size (.cells #[.func (.func 139) #[] #[],.func (.func 140) #[] #[],.func (.func 142) #[] #[],.func (.func 143) #[] #[],.string wDrop] 113);have hA3:=hA2.alloc hA2.size (.cells #[.func (.func 144) #[] #[],.func (.func 145) #[] #[],.func (.func 147) #[] #[],.func (.func 148) #[] #[],.string wName] 113);refine (hpar _ _ (hv2.keep hA3) (ht2.keep hA3)).mono ?_;rintro e3 w3 ⟨v3,rfl,ho3,hb3⟩;obtain ⟨a3,c3,rfl⟩:=ho3.slice;have hk3:=hA3.trans (hb3.mono hA3.size);have hB3:=hB2.trans (hk3.mono hz2);obtain ⟨r0,r1,r2,r3,rf,hz1,hbw1⟩:=res4 hB3;have hv3:=hv2.keep hk3;have hz3:=hk3.size;clear hb3 hA0 hA1 hA2 hA3))
  refine bodyPost_ret (v:=.tuple #[.agg #[.int .i64 0,.string ⟨#[]⟩,.string ⟨#[]⟩,.slice none 0 0],.bool false]) (by simp [results,Tryz.results49,go_sem,r0,r1,r2,r3,rf,hz1]) rfl ?_
  rw [HE.out]
  refine entP_none ?_
  (repeat (first|(with_reducible refine Below.alloc ?_ ?_ _;rotate_left;(first|omega|(simp;done)|(simp;omega)))|(with_reducible refine Below.setCell ?_ ?_ _;rotate_left;(first|exact Nat.le_refl _|(simp;done)|(simp;omega)))|(with_reducible refine Below.drew ?_)));exact hbw1
 | true =>
  have hee:=he rfl
  cases hx:textO L e with
  | none =>
   have HE:Hid (o=none):=(show _=_ by rw [← ho,if_pos rfl];exact check_text_none hx)
   have HT:=Lib.hid hx
   clear hx ho he
   go_enter Tryz.func49,Tryz.ntmps49
   go_wp2_with (first|(go_at_call 68;refine (isLibrary_any _ L _ (hv.keep (alloc_below _ _)) hLn hLo).mono ?_;rintro e1 w1 ⟨rfl,hb1⟩;rw [HG.out];have hB1:Below (w.heap.size+1) (w.alloc (.cells #[.int .i64 0,.string ⟨#[]⟩,.string ⟨#[]⟩,.slice none 0 0] 54)) w1:=hb1.mono (by simp))|(go_at_call 93;refine (kinds_any _).mono ?_;rintro e2 w2 ⟨rfl,hb2⟩;have hz2:w.heap.size+1≤w2.heap.size:=(by have h1:=hB1.size;have h2:=hb2.size;simp at h1;omega);have hB2:Below (w.heap.size+1) (w.alloc (.cells #[.int .i64 0,.string ⟨#[]⟩,.string ⟨#[]⟩,.slice none 0 0] 54)) w2:=hB1.trans (hb2.mono (by have h1:=hB1.size;simpa using h1));have hv2:DfsAt w2 (.slice a L.length cap) L:=hv.keep ((alloc_below _ _).trans (hB2.mono (by omega)));have ht2:CutTab w2:=ht.keep ((alloc_below _ _).trans (hB2.mono (by omega)));clear hB1 hb1 hb2))
   refine wp_loop_rounds 3 ?_
   rw [rounds_succ]
   go_wp2_with (go_at_call 94;refine (pc_no (p:=wLet) HN1.out).mono ?_;rintro e8 w8 ⟨rfl,rfl⟩)
   rw [rounds_succ]
   go_wp2_with (go_at_call 94;refine (pc_no (p:=wDrop) HN2.out).mono ?_;rintro e8 w8 ⟨rfl,rfl⟩)
   rw [rounds_succ]
   go_wp2_with (first|(go_at_call 94;refine (pc_yes (p:=wName) HY.out).mono ?_;rintro e8 w8 ⟨rfl,rfl⟩;rw [HX.out])|(go_at_call 148;have hA0:Below w2.heap.size w2 w2:=Below.refl _ _;have hA1:=hA0.alloc hA0.size (.cells #[.func (.func 132) #[] #[],.func (.func 133) #[] #[],.func (.func 136) #[] #[],.func (.func 138) #[] #[],.string wLet] 113);have hA2:=hA1.alloc hA1.size (.cells #[.func (.func 139) #[] #[],.func (.func 140) #[] #[],.func (.func 142) #[] #[],.func (.func 143) #[] #[],.string wDrop] 113);have hA3:=hA2.alloc hA2.size (.cells #[.func (.func 144) #[] #[],.func (.func 145) #[] #[],.func (.func 147) #[] #[],.func (.func 148) #[] #[],.string wName] 113);refine (hpar _ _ (hv2.keep hA3) (ht2.keep hA3)).mono ?_;rintro e3 w3 ⟨v3,rfl,ho3,hb3⟩;obtain ⟨a3,c3,rfl⟩:=ho3.slice;have hk3:=hA3.trans (hb3.mono hA3.size);have hB3:=hB2.trans (hk3.mono hz2);obtain ⟨r0,r1,r2,r3,rf,hz1,hbw1⟩:=res4 hB3;have hv3:=hv2.keep hk3;have hz3:=hk3.size;clear hb3 hA0 hA1 hA2 hA3))
   refine (implText_any _ _ L e _ (hv3.keep (alloc_below _ _)) hLn hLo (ho3.at.keep (alloc_below _ _)) hee).mono ?_
   rintro e4 w4 ⟨rfl,hb4⟩
   rw [HT.out]
   have hC4:Below (w3.heap.size+1) (w3.alloc (.cells #[.int .i64 e.kind,.string e.name,.string e.to,.slice a3 e.body.length c3] 54)) w4:=hb4.mono (by simp)
   have hB4:=hB3.trans (((alloc_below w3 (.cells #[.int .i64 e.kind,.string e.name,.string e.to,.slice a3 e.body.length c3] 54)).trans (hC4.mono (by omega))).mono (by omega))
   obtain ⟨x0,x1,x2,x3,xz,hk4⟩:=box4 hC4
   clear r0 r1 r2 r3 rf hz1 hbw1
   obtain ⟨r0,r1,r2,r3,rf,hz1,hbw1⟩:=res4 hB4
   simp only [Option.isSome_none,Option.isSome_some,Option.getD_none,Option.getD_some]
   go_wp2
   refine bodyPost_ret (v:=.tuple #[.agg #[.int .i64 0,.string ⟨#[]⟩,.string ⟨#[]⟩,.slice none 0 0],.bool false]) (by simp [results,Tryz.results49,go_sem,r0,r1,r2,r3,rf,hz1]) rfl ?_
   rw [HE.out]
   refine entP_none ?_
   (repeat (first|(with_reducible refine Below.alloc ?_ ?_ _;rotate_left;(first|omega|(simp;done)|(simp;omega)))|(with_reducible refine Below.setCell ?_ ?_ _;rotate_left;(first|exact Nat.le_refl _|(simp;done)|(simp;omega)))|(with_reducible refine Below.drew ?_)));exact hbw1
  | some tx =>
   by_cases htx:tx=s
   ·subst htx
    have HE:Hid (o=some e):=(show _=_ by rw [← ho,if_pos rfl];exact check_text_some hx)
    have HT:=Lib.hid hx
    clear hx ho he
    go_enter Tryz.func49,Tryz.ntmps49
    go_wp2_with (first|(go_at_call 68;refine (isLibrary_any _ L _ (hv.keep (alloc_below _ _)) hLn hLo).mono ?_;rintro e1 w1 ⟨rfl,hb1⟩;rw [HG.out];have hB1:Below (w.heap.size+1) (w.alloc (.cells #[.int .i64 0,.string ⟨#[]⟩,.string ⟨#[]⟩,.slice none 0 0] 54)) w1:=hb1.mono (by simp))|(go_at_call 93;refine (kinds_any _).mono ?_;rintro e2 w2 ⟨rfl,hb2⟩;have hz2:w.heap.size+1≤w2.heap.size:=(by have h1:=hB1.size;have h2:=hb2.size;simp at h1;omega);have hB2:Below (w.heap.size+1) (w.alloc (.cells #[.int .i64 0,.string ⟨#[]⟩,.string ⟨#[]⟩,.slice none 0 0] 54)) w2:=hB1.trans (hb2.mono (by have h1:=hB1.size;simpa using h1));have hv2:DfsAt w2 (.slice a L.length cap) L:=hv.keep ((alloc_below _ _).trans (hB2.mono (by omega)));have ht2:CutTab w2:=ht.keep ((alloc_below _ _).trans (hB2.mono (by omega)));clear hB1 hb1 hb2))
    refine wp_loop_rounds 3 ?_
    rw [rounds_succ]
    go_wp2_with (go_at_call 94;refine (pc_no (p:=wLet) HN1.out).mono ?_;rintro e8 w8 ⟨rfl,rfl⟩)
    rw [rounds_succ]
    go_wp2_with (go_at_call 94;refine (pc_no (p:=wDrop) HN2.out).mono ?_;rintro e8 w8 ⟨rfl,rfl⟩)
    rw [rounds_succ]
    go_wp2_with (first|(go_at_call 94;refine (pc_yes (p:=wName) HY.out).mono ?_;rintro e8 w8 ⟨rfl,rfl⟩;rw [HX.out])|(go_at_call 148;have hA0:Below w2.heap.size w2 w2:=Below.refl _ _;have hA1:=hA0.alloc hA0.size (.cells #[.func (.func 132) #[] #[],.func (.func 133) #[] #[],.func (.func 136) #[] #[],.func (.func 138) #[] #[],.string wLet] 113);have hA2:=hA1.alloc hA1.size (.cells #[.func (.func 139) #[] #[],.func (.func 140) #[] #[],.func (.func 142) #[] #[],.func (.func 143) #[] #[],.string wDrop] 113);have hA3:=hA2.alloc hA2.size (.cells #[.func (.func 144) #[] #[],.func (.func 145) #[] #[],.func (.func 147) #[] #[],.func (.func 148) #[] #[],.string wName] 113);refine (hpar _ _ (hv2.keep hA3) (ht2.keep hA3)).mono ?_;rintro e3 w3 ⟨v3,rfl,ho3,hb3⟩;obtain ⟨a3,c3,rfl⟩:=ho3.slice;have hk3:=hA3.trans (hb3.mono hA3.size);have hB3:=hB2.trans (hk3.mono hz2);obtain ⟨r0,r1,r2,r3,rf,hz1,hbw1⟩:=res4 hB3;have hv3:=hv2.keep hk3;have hz3:=hk3.size;clear hb3 hA0 hA1 hA2 hA3))
    refine (implText_any _ _ L e _ (hv3.keep (alloc_below _ _)) hLn hLo (ho3.at.keep (alloc_below _ _)) hee).mono ?_
    rintro e4 w4 ⟨rfl,hb4⟩
    rw [HT.out]
    have hC4:Below (w3.heap.size+1) (w3.alloc (.cells #[.int .i64 e.kind,.string e.name,.string e.to,.slice a3 e.body.length c3] 54)) w4:=hb4.mono (by simp)
    have hB4:=hB3.trans (((alloc_below w3 (.cells #[.int .i64 e.kind,.string e.name,.string e.to,.slice a3 e.body.length c3] 54)).trans (hC4.mono (by omega))).mono (by omega))
    obtain ⟨x0,x1,x2,x3,xz,hk4⟩:=box4 hC4
    clear r0 r1 r2 r3 rf hz1 hbw1
    obtain ⟨r0,r1,r2,r3,rf,hz1,hbw1⟩:=res4 hB4
    simp only [Option.isSome_none,Option.isSome_some,Option.getD_none,Option.getD_some]
    go_wp2
    refine bodyPost_ret (v:=.tuple #[.agg #[.int .i64 e.kind,.string e.name,.string e.to,.slice a3 e.body.length c3],.bool true]) (by simp [results,Tryz.results49,go_sem,r0,r1,r2,r3,rf,hz1]) rfl ?_
    rw [HE.out]
    refine ⟨_,rfl,?_,?_⟩
    ·have ho4:=(ho3.keep (alloc_below _ _)).keep hb4
     exact NdsOwn.mono (B:=w.heap.size+1) (by omega) (((((ho4.mono (by simp;omega)).setLow (a:=⟨w.heap.size,0,none⟩) (by simp) _).setLow (a:=⟨w.heap.size,1,none⟩) (by simp) _).setLow (a:=⟨w.heap.size,2,none⟩) (by simp) _).setLow (a:=⟨w.heap.size,3,none⟩) (by simp) _)
    ·(repeat (first|(with_reducible refine Below.alloc ?_ ?_ _;rotate_left;(first|omega|(simp;done)|(simp;omega)))|(with_reducible refine Below.setCell ?_ ?_ _;rotate_left;(first|exact Nat.le_refl _|(simp;done)|(simp;omega)))|(with_reducible refine Below.drew ?_)));exact hbw1
   ·have HE:Hid (o=none):=(show _=_ by rw [← ho,if_pos rfl];exact check_text_other hx htx)
    have g1:=str_ne htx
    have HT:=Lib.hid hx
    clear hx ho he htx
    go_enter Tryz.func49,Tryz.ntmps49
    go_wp2_with (first|(go_at_call 68;refine (isLibrary_any _ L _ (hv.keep (alloc_below _ _)) hLn hLo).mono ?_;rintro e1 w1 ⟨rfl,hb1⟩;rw [HG.out];have hB1:Below (w.heap.size+1) (w.alloc (.cells #[.int .i64 0,.string ⟨#[]⟩,.string ⟨#[]⟩,.slice none 0 0] 54)) w1:=hb1.mono (by simp))|(go_at_call 93;refine (kinds_any _).mono ?_;rintro e2 w2 ⟨rfl,hb2⟩;have hz2:w.heap.size+1≤w2.heap.size:=(by have h1:=hB1.size;have h2:=hb2.size;simp at h1;omega);have hB2:Below (w.heap.size+1) (w.alloc (.cells #[.int .i64 0,.string ⟨#[]⟩,.string ⟨#[]⟩,.slice none 0 0] 54)) w2:=hB1.trans (hb2.mono (by have h1:=hB1.size;simpa using h1));have hv2:DfsAt w2 (.slice a L.length cap) L:=hv.keep ((alloc_below _ _).trans (hB2.mono (by omega)));have ht2:CutTab w2:=ht.keep ((alloc_below _ _).trans (hB2.mono (by omega)));clear hB1 hb1 hb2))
    refine wp_loop_rounds 3 ?_
    rw [rounds_succ]
    go_wp2_with (go_at_call 94;refine (pc_no (p:=wLet) HN1.out).mono ?_;rintro e8 w8 ⟨rfl,rfl⟩)
    rw [rounds_succ]
    go_wp2_with (go_at_call 94;refine (pc_no (p:=wDrop) HN2.out).mono ?_;rintro e8 w8 ⟨rfl,rfl⟩)
    rw [rounds_succ]
    go_wp2_with (first|(go_at_call 94;refine (pc_yes (p:=wName) HY.out).mono ?_;rintro e8 w8 ⟨rfl,rfl⟩;rw [HX.out])|(go_at_call 148;have hA0:Below w2.heap.size w2 w2:=Below.refl _ _;have hA1:=hA0.alloc hA0.size (.cells #[.func (.func 132) #[] #[],.func (.func 133) #[] #[],.func (.func 136) #[] #[],.func (.func 138) #[] #[],.string wLet] 113);have hA2:=hA1.alloc hA1.size (.cells #[.func (.func 139) #[] #[],.func (.func 140) #[] #[],.func (.func 142) #[] #[],.func (.func 143) #[] #[],.string wDrop] 113);have hA3:=hA2.alloc hA2.size (.cells #[.func (.func 144) #[] #[],.func (.func 145) #[] #[],.func (.func 147) #[] #[],.func (.func 148) #[] #[],.string wName] 113);refine (hpar _ _ (hv2.keep hA3) (ht2.keep hA3)).mono ?_;rintro e3 w3 ⟨v3,rfl,ho3,hb3⟩;obtain ⟨a3,c3,rfl⟩:=ho3.slice;have hk3:=hA3.trans (hb3.mono hA3.size);have hB3:=hB2.trans (hk3.mono hz2);obtain ⟨r0,r1,r2,r3,rf,hz1,hbw1⟩:=res4 hB3;have hv3:=hv2.keep hk3;have hz3:=hk3.size;clear hb3 hA0 hA1 hA2 hA3))
    refine (implText_any _ _ L e _ (hv3.keep (alloc_below _ _)) hLn hLo (ho3.at.keep (alloc_below _ _)) hee).mono ?_
    rintro e4 w4 ⟨rfl,hb4⟩
    rw [HT.out]
    have hC4:Below (w3.heap.size+1) (w3.alloc (.cells #[.int .i64 e.kind,.string e.name,.string e.to,.slice a3 e.body.length c3] 54)) w4:=hb4.mono (by simp)
    have hB4:=hB3.trans (((alloc_below w3 (.cells #[.int .i64 e.kind,.string e.name,.string e.to,.slice a3 e.body.length c3] 54)).trans (hC4.mono (by omega))).mono (by omega))
    obtain ⟨x0,x1,x2,x3,xz,hk4⟩:=box4 hC4
    clear r0 r1 r2 r3 rf hz1 hbw1
    obtain ⟨r0,r1,r2,r3,rf,hz1,hbw1⟩:=res4 hB4
    simp only [Option.isSome_none,Option.isSome_some,Option.getD_none,Option.getD_some]
    go_wp2
    refine bodyPost_ret (v:=.tuple #[.agg #[.int .i64 0,.string ⟨#[]⟩,.string ⟨#[]⟩,.slice none 0 0],.bool false]) (by simp [results,Tryz.results49,go_sem,r0,r1,r2,r3,rf,hz1]) rfl ?_
    rw [HE.out]
    refine entP_none ?_
    (repeat (first|(with_reducible refine Below.alloc ?_ ?_ _;rotate_left;(first|omega|(simp;done)|(simp;omega)))|(with_reducible refine Below.setCell ?_ ?_ _;rotate_left;(first|exact Nat.le_refl _|(simp;done)|(simp;omega)))|(with_reducible refine Below.drew ?_)));exact hbw1
end Go.Proofs.YtldhpaflmnlcaaaGreatDoor
