/-
  What the program's kinds of entries read. Own work.
-/
import Derived.Test.YtikgblkfmpecfaaGreatDoorWLW
import Derived.Test.YtikgblkfmpecfaaGreatDoorWCC
import Derived.Test.YtikgblkfmpecfaaGreatDoorWAP
import Derived.Test.YtikgblkfmpecfaaGreatDoorWW
set_option linter.all false
set_option maxRecDepth 100000
set_option maxHeartbeats 8000000
namespace Go.Proofs.YtikgblkfmpecfaaGreatDoor
open Go.RowKit
def xU (k:Int) (nm to:ByteArray) (b:List Nd) (ok:Bool) (w:World) (e:Ending) (w':World):Prop :=
 ∃v',e=.returned (.tuple #[.agg #[.int .i64 k,.string nm,.string to,v'],.bool ok])/\au w' w.heap.size v' b/\Below w.heap.size w w'
theorem ZN (v:Value) (L:List Df) (t:ByteArray) (w:World) (hv:aG w v L) (hg:good L=true) (hs:t.size<=4194304) :
  Calls Tryz.prog 115 #[v,.string t] w (xU 1 ((dX L t).getD um).name ⟨#[]⟩ ((dX L t).getD um).body (dX L t).isSome w):=by
 obtain⟨a,cap,rfl⟩:∃a cap,v=.slice a L.length cap:=by obtain⟨a,cap,rfl,_⟩:=hv;exact⟨a,cap,rfl⟩
 obtain⟨hLo,hLn⟩:=mJ hg;have hrd:qP L t=dX L t:=by unfold qP;rw[if_pos hg]
 have lQ:=λ(w1:World) (h1:aG w1 (.slice a L.length cap) L)=>abO _ L t w1 h1 hLn hLo hs;rw[hrd]at lQ;obtain⟨r,hr⟩:∃r,dX L t=r:=⟨_,rfl⟩
 rw[hr]at lQ ⊢;clear hr hrd hg;go_enter Tryz.func115,Tryz.ntmps115;go_wp2_with (go_at_call 116;refine(lQ _ (hv.keep (aj _ _))).mono ?_;rintro e w1⟨v1,rfl,ho1,hb1⟩;obtain⟨a1,c1,rfl⟩:=ho1.slice;obtain⟨r0,r1,r2,r3,rf,hz1,aF⟩:=aY (hb1.mono (by simp));have ho2:au w1 (w.heap.size+1) (.slice a1 (r.getD um).body.length c1) (r.getD um).body:=(au.mono (by simp) ho1))
 have hlt:w.heap.size<w.heap.size+1:=Nat.lt_succ_self _;refine bodyPost_ret (v:=.tuple #[.agg #[.int .i64 1,.string (r.getD um).name,.string ⟨#[]⟩,.slice a1 (r.getD um).body.length c1],.bool r.isSome]) (by simp[results,Tryz.results115,go_sem,r0,r1,r2,r3,rf,hz1]) rfl ?_;refine⟨_,rfl,?_,?_⟩
 ·exact au.mono (B:=w.heap.size+1) (by omega) (((((ho2.bY (a:=⟨w.heap.size,0,none⟩) hlt _).bY (a:=⟨w.heap.size,1,none⟩) hlt _).bY (a:=⟨w.heap.size,2,none⟩) hlt _).bY (a:=⟨w.heap.size,3,none⟩) hlt _).keep (aj _ _))
 ·(repeat(first|(with_reducible refine Below.alloc ?_ ?_ _;rotate_left;(first|omega|(simp;done)|(simp;omega)))|(with_reducible refine Below.setCell ?_ ?_ _;rotate_left;(first|exact Nat.le_refl _|(simp;done)|(simp;omega)))|(with_reducible refine Below.drew ?_)));exact aF
theorem afJ (v:Value) (n c:Nat) (a:Option Addr) (hv:v=.slice a n c) (t:ByteArray) (w:World) :
  Calls Tryz.prog 121 #[v,.string t] w (xU 2 t ⟨#[]⟩ [] true w):=by
 subst hv;go_enter Tryz.func121,Tryz.ntmps121;go_wp2;refine bodyPost_ret (v:=.tuple #[.agg #[.int .i64 2,.string t,.string ⟨#[]⟩,.slice none 0 0],.bool true]) (by simp[results,Tryz.results121,go_sem]) rfl ?_;refine⟨_,rfl,jY _ _,?_⟩;(repeat(first|(with_reducible refine Below.alloc ?_ ?_ _;rotate_left;(first|omega|(simp;done)|(simp;omega)))|(with_reducible refine Below.setCell ?_ ?_ _;rotate_left;(first|exact Nat.le_refl _|(simp;done)|(simp;omega)))|(with_reducible refine Below.drew ?_)));exact(Below.refl _ _)
theorem afK (v:Value) (n c:Nat) (a:Option Addr) (hv:v=.slice a n c) (t:ByteArray) (w:World) (ht:dF w) (hs:t.size<=4194304) (h:Lib.cut t.data.toList [32]=(t.data.toList,[],false)) :
  Calls Tryz.prog 126 #[v,.string t] w (xU 3 t ⟨#[]⟩ [] false w):=by
 subst hv;go_enter Tryz.func126,Tryz.ntmps126;go_wp2_with (go_at_call 127;refine(XP (ht.keep (aj _ _)) hs h).mono ?_;rintro e w1⟨rfl,hb1⟩;obtain⟨r0,r1,r2,r3,rf,hz1,aF⟩:=aY (hb1.mono (by simp)))
 refine bodyPost_ret (v:=.tuple #[.agg #[.int .i64 3,.string t,.string ⟨#[]⟩,.slice none 0 0],.bool false]) (by simp[results,Tryz.results126,go_sem,r0,r1,r2,r3,rf,hz1]) rfl ?_;refine⟨_,rfl,jY _ _,?_⟩;(repeat(first|(with_reducible refine Below.alloc ?_ ?_ _;rotate_left;(first|omega|(simp;done)|(simp;omega)))|(with_reducible refine Below.setCell ?_ ?_ _;rotate_left;(first|exact Nat.le_refl _|(simp;done)|(simp;omega)))|(with_reducible refine Below.drew ?_)));exact aF
theorem afL (v:Value) (n c:Nat) (a:Option Addr) (hv:v=.slice a n c) (t:ByteArray) (x r:List UInt8) (w:World) (ht:dF w) (hs:t.size<=4194304) (h:Lib.cut t.data.toList [32]=(x,r,true)) :
  Calls Tryz.prog 126 #[v,.string t] w (xU 3 (bytesOf x) (bytesOf r) [] true w):=by
 subst hv;go_enter Tryz.func126,Tryz.ntmps126;go_wp2_with (go_at_call 127;refine(XQ (ht.keep (aj _ _)) hs h).mono ?_;rintro e w1⟨rfl,hb1⟩;obtain⟨r0,r1,r2,r3,rf,hz1,aF⟩:=aY (hb1.mono (by simp)))
 refine bodyPost_ret (v:=.tuple #[.agg #[.int .i64 3,.string (bytesOf x),.string (bytesOf r),.slice none 0 0],.bool true]) (by simp[results,Tryz.results126,go_sem,r0,r1,r2,r3,rf,hz1]) rfl ?_;refine⟨_,rfl,jY _ _,?_⟩;(repeat(first|(with_reducible refine Below.alloc ?_ ?_ _;rotate_left;(first|omega|(simp;done)|(simp;omega)))|(with_reducible refine Below.setCell ?_ ?_ _;rotate_left;(first|exact Nat.le_refl _|(simp;done)|(simp;omega)))|(with_reducible refine Below.drew ?_)));exact aF
def ny (o:Option En) (w:World) (e:Ending) (w':World):Prop:=xU (o.getD e0).kind (o.getD e0).name (o.getD e0).to (o.getD e0).body o.isSome w e w'
theorem sS {s p:ByteArray} {w:World} (h:p.data.toList.isPrefixOf s.data.toList=true) :
  Calls Tryz.prog 63 #[.string s,.string p] w λe w'=>e=.returned (.tuple #[.string (bytesOf (s.data.toList.drop p.size)),.bool true])/\w'=w:=by
 refine(Tryz.strings_CutPrefix s p w).mono ?_;rintro e w'⟨rfl,rfl⟩;simp[Lib.trimPrefix,Lib.hasPrefix,h,bytesOf]
theorem pF {s p:ByteArray} {w:World} (h:p.data.toList.isPrefixOf s.data.toList=false) :
  Calls Tryz.prog 63 #[.string s,.string p] w λe w'=>e=.returned (.tuple #[.string s,.bool false])/\w'=w:=by
 refine(Tryz.strings_CutPrefix s p w).mono ?_;rintro e w'⟨rfl,rfl⟩;simp[Lib.trimPrefix,Lib.hasPrefix,h]
theorem kK {w W:World} (hb:Below w.heap.size w W):ny none w (.returned (.tuple #[.agg #[.int .i64 0,.string ⟨#[]⟩,.string ⟨#[]⟩,.slice none 0 0],.bool false])) W :=
 ⟨_,rfl,jY _ _,hb⟩
theorem afM (v:Value) (L:List Df) (s:ByteArray) (w:World) (hv:aG w v L) (hn:L.length<=1048576) (pW:∀d∈L,dN d) (hg:good L=false) :
  Calls Tryz.prog 23 #[v,.string s] w (ny none w):=by
 obtain⟨a,cap,rfl⟩:∃a cap,v=.slice a L.length cap:=by obtain⟨a,cap,rfl,_⟩:=hv;exact⟨a,cap,rfl⟩
 have HG:=Lib.hid hg;clear hg;go_enter Tryz.func23,Tryz.ntmps23;go_wp2_with (go_at_call 46;refine(fJ _ L _ (hv.keep (aj _ _)) hn pW).mono ?_;rintro e1 w1⟨rfl,hb1⟩;rw[HG.out];obtain⟨r0,r1,r2,r3,rf,hz1,aF⟩:=aY (hb1.mono (by simp)))
 refine bodyPost_ret (v:=.tuple #[.agg #[.int .i64 0,.string ⟨#[]⟩,.string ⟨#[]⟩,.slice none 0 0],.bool false]) (by simp[results,Tryz.results23,go_sem,r0,r1,r2,r3,rf,hz1]) rfl ?_;refine kK ?_;(repeat(first|(with_reducible refine Below.alloc ?_ ?_ _;rotate_left;(first|omega|(simp;done)|(simp;omega)))|(with_reducible refine Below.setCell ?_ ?_ _;rotate_left;(first|exact Nat.le_refl _|(simp;done)|(simp;omega)))|(with_reducible refine Below.drew ?_)));exact aF
theorem afN (v:Value) (L:List Df) (s:ByteArray) (w:World) (hv:aG w v L) (hg:good L=true) (h1:dA.data.toList.isPrefixOf s.data.toList=false) (h2:dQ.data.toList.isPrefixOf s.data.toList=false) (h3:fE.data.toList.isPrefixOf s.data.toList=false) :
  Calls Tryz.prog 23 #[v,.string s] w (ny none w):=by
 obtain⟨a,cap,rfl⟩:∃a cap,v=.slice a L.length cap:=by obtain⟨a,cap,rfl,_⟩:=hv;exact⟨a,cap,rfl⟩
 obtain⟨hLo,hLn⟩:=mJ hg;have HG:=Lib.hid hg;have uZ:=Lib.hid h1;have zh:=Lib.hid h2;have HN3:=Lib.hid h3;have hix0:=λw=>(o8 w).1;have hix1:=λw=>(o8 w).2.1;have hix2:=λw=>(o8 w).2.2;simp only[qX,qY,qZ,fv]at hix0 hix1 hix2;clear hg h1 h2 h3;go_enter Tryz.func23,Tryz.ntmps23;go_wp2_with (first|(go_at_call 46;refine(fJ _ L _ (hv.keep (aj _ _)) hLn hLo).mono ?_;rintro e1 w1⟨rfl,hb1⟩;rw[HG.out];have hB1:Below (w.heap.size+1) (w.alloc (.cells #[.int .i64 0,.string ⟨#[]⟩,.string ⟨#[]⟩,.slice none 0 0] 45)) w1:=hb1.mono (by simp))|(go_at_call 62;refine(nR _).mono ?_;rintro e2 w2⟨rfl,hb2⟩;have hz2:w.heap.size+1<=w2.heap.size:=(by have h1:=hB1.size;have h2:=hb2.size;simp at h1;omega);have hB2:Below (w.heap.size+1) (w.alloc (.cells #[.int .i64 0,.string ⟨#[]⟩,.string ⟨#[]⟩,.slice none 0 0] 45)) w2:=hB1.trans (hb2.mono (by have h1:=hB1.size;simpa using h1));clear hB1 hb1 hb2))
 refine wp_loop_rounds 4 ?_;rw[rounds_succ];go_wp2_with (go_at_call 63;refine(pF (p:=dA) uZ.out).mono ?_;rintro e8 w8⟨rfl,rfl⟩)
 rw[rounds_succ];go_wp2_with (go_at_call 63;refine(pF (p:=dQ) zh.out).mono ?_;rintro e8 w8⟨rfl,rfl⟩)
 rw[rounds_succ];go_wp2_with (go_at_call 63;refine(pF (p:=fE) HN3.out).mono ?_;rintro e8 w8⟨rfl,rfl⟩)
 rw[rounds_succ];have hA0:Below w2.heap.size w2 w2:=Below.refl _ _;have hA1:=hA0.alloc hA0.size (.cells #[.func (.func 109) #[] #[],.func (.func 110) #[] #[],.func (.func 113) #[] #[],.func (.func 115) #[] #[],.string dA] 105);have hA2:=hA1.alloc hA1.size (.cells #[.func (.func 117) #[] #[],.func (.func 118) #[] #[],.func (.func 120) #[] #[],.func (.func 121) #[] #[],.string dQ] 105);have hA3:=hA2.alloc hA2.size (.cells #[.func (.func 122) #[] #[],.func (.func 123) #[] #[],.func (.func 125) #[] #[],.func (.func 126) #[] #[],.string fE] 105);have hBW:=hB2.trans (hA3.mono hz2);generalize hW:((w2.alloc (.cells #[.func (.func 109) #[] #[],.func (.func 110) #[] #[],.func (.func 113) #[] #[],.func (.func 115) #[] #[],.string dA] 105)).alloc (.cells #[.func (.func 117) #[] #[],.func (.func 118) #[] #[],.func (.func 120) #[] #[],.func (.func 121) #[] #[],.string dQ] 105)).alloc (.cells #[.func (.func 122) #[] #[],.func (.func 123) #[] #[],.func (.func 125) #[] #[],.func (.func 126) #[] #[],.string fE] 105)=W at hBW hA3 ⊢;obtain⟨r0,r1,r2,r3,rf,hz1,aF⟩:=aY hBW;clear hW hz2 hA0 hA1 hA2 hB2;go_wp2;refine bodyPost_ret (v:=.tuple #[.agg #[.int .i64 0,.string ⟨#[]⟩,.string ⟨#[]⟩,.slice none 0 0],.bool false]) (by simp[results,Tryz.results23,go_sem,r0,r1,r2,r3,rf,hz1]) rfl ?_;refine kK ?_;(repeat(first|(with_reducible refine Below.alloc ?_ ?_ _;rotate_left;(first|omega|(simp;done)|(simp;omega)))|(with_reducible refine Below.setCell ?_ ?_ _;rotate_left;(first|exact Nat.le_refl _|(simp;done)|(simp;omega)))|(with_reducible refine Below.drew ?_)));exact aF
theorem u_ {a b:ByteArray} (h:¬a=b):(a.toList==b.toList)=false:=by
 rw[ByteArray.toList_eq,ByteArray.toList_eq,beq_eq_false_iff_ne];intro e;apply h;obtain⟨a⟩:=a;obtain⟨b⟩:=b;simp only at e;rw[Array.toList_inj.1 e]
theorem SH {L:List Df} {s:ByteArray} {e:En} (h:lH L e=none):jh L s (some e)=none:=by
 unfold lH at h;split at h
 ·cases h
 ·rename_i hn;simp[jh,hn]
theorem SI {L:List Df} {s:ByteArray} {e:En} (h:lH L e=some s):jh L s (some e)=some e:=by
 unfold lH at h;split at h
 ·rename_i hn;simp[jh,hn,Option.some.inj h]
 ·cases h
theorem SK {L:List Df} {s tx:ByteArray} {e:En} (h:lH L e=some tx) (hne:¬tx=s):jh L s (some e)=none:=by
 unfold lH at h;split at h
 ·rename_i hn;have:=Option.some.inj h;simp[jh,this,hne]
 ·cases h
end Go.Proofs.YtikgblkfmpecfaaGreatDoor
