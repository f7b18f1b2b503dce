/-
  What the program's kinds of entries read. Own work.
-/
import Derived.Test.YtldhpaflmnlcaaaGreatDoorQLW
import Derived.Test.YtldhpaflmnlcaaaGreatDoorQCC
import Derived.Test.YtldhpaflmnlcaaaGreatDoorQAP
import Derived.Test.YtldhpaflmnlcaaaGreatDoorQW
set_option linter.all false
set_option maxRecDepth 100000
set_option maxHeartbeats 8000000
namespace Go.Proofs.YtldhpaflmnlcaaaGreatDoor
open Go.RowKit
def EnP (k:Int) (nm to:ByteArray) (b:List Nd) (ok:Bool) (w:World) (e:Ending) (w':World):Prop :=
 ∃ v',e=.returned (.tuple #[.agg #[.int .i64 k,.string nm,.string to,v'],.bool ok])∧NdsOwn w' w.heap.size v' b∧Below w.heap.size w w'
theorem parse4_any (v:Value) (L:List Df) (t:ByteArray) (w:World) (hv:DfsAt w v L) (hg:good L=true) (hs:t.size≤4194304) :
  Calls Tryz.prog 138 #[v,.string t] w (EnP 1 ((defL L t).getD df0).name ⟨#[]⟩ ((defL L t).getD df0).body (defL L t).isSome w):=by
 obtain ⟨a,cap,rfl⟩:∃ a cap,v=.slice a L.length cap:=by obtain ⟨a,cap,rfl,_⟩:=hv;exact ⟨a,cap,rfl⟩
 obtain ⟨hLo,hLn⟩:=goodLib_okP hg
 have hrd:readD L t=defL L t:=by unfold readD;rw [if_pos hg]
 have hpd:=fun (w1:World) (h1:DfsAt w1 (.slice a L.length cap) L)=>implParseDef_any _ L t w1 h1 hLn hLo hs
 rw [hrd] at hpd
 obtain ⟨r,hr⟩:∃ r,defL L t=r:=⟨_,rfl⟩
 rw [hr] at hpd ⊢
 clear hr hrd hg
 go_enter Tryz.func138,Tryz.ntmps138
 go_wp2_with (go_at_call 19;refine (hpd _ (hv.keep (alloc_below _ _))).mono ?_;rintro e w1 ⟨v1,rfl,ho1,hb1⟩;obtain ⟨a1,c1,rfl⟩:=ho1.slice;obtain ⟨r0,r1,r2,r3,rf,hz1,hbw1⟩:=res4 (hb1.mono (by simp));have ho2:NdsOwn w1 (w.heap.size+1) (.slice a1 (r.getD df0).body.length c1) (r.getD df0).body:=(NdsOwn.mono (by simp) ho1))
 have hlt:w.heap.size<w.heap.size+1:=Nat.lt_succ_self _
 refine bodyPost_ret (v:=.tuple #[.agg #[.int .i64 1,.string (r.getD df0).name,.string ⟨#[]⟩,.slice a1 (r.getD df0).body.length c1],.bool r.isSome]) (by simp [results,Tryz.results138,go_sem,r0,r1,r2,r3,rf,hz1]) rfl ?_
 refine ⟨_,rfl,?_,?_⟩
 ·exact NdsOwn.mono (B:=w.heap.size+1) (by omega) (((((ho2.setLow (a:=⟨w.heap.size,0,none⟩) hlt _).setLow (a:=⟨w.heap.size,1,none⟩) hlt _).setLow (a:=⟨w.heap.size,2,none⟩) hlt _).setLow (a:=⟨w.heap.size,3,none⟩) hlt _).keep (alloc_below _ _))
 ·(repeat (first|(with_reducible refine Below.alloc ?_ ?_ _;rotate_left;(first|omega|(simp;done)|(simp;omega)))|(with_reducible refine Below.setCell ?_ ?_ _;rotate_left;(first|exact Nat.le_refl _|(simp;done)|(simp;omega)))|(with_reducible refine Below.drew ?_)));exact hbw1
theorem parse8_any (v:Value) (n c:Nat) (a:Option Addr) (hv:v=.slice a n c) (t:ByteArray) (w:World) :
  Calls Tryz.prog 143 #[v,.string t] w (EnP 2 t ⟨#[]⟩ [] true w):=by
 subst hv
 go_enter Tryz.func143,Tryz.ntmps143
 go_wp2
 refine bodyPost_ret (v:=.tuple #[.agg #[.int .i64 2,.string t,.string ⟨#[]⟩,.slice none 0 0],.bool true]) (by simp [results,Tryz.results143,go_sem]) rfl ?_
 refine ⟨_,rfl,nds_none _ _,?_⟩
 (repeat (first|(with_reducible refine Below.alloc ?_ ?_ _;rotate_left;(first|omega|(simp;done)|(simp;omega)))|(with_reducible refine Below.setCell ?_ ?_ _;rotate_left;(first|exact Nat.le_refl _|(simp;done)|(simp;omega)))|(with_reducible refine Below.drew ?_)));exact (Below.refl _ _)
theorem parse12_no (v:Value) (n c:Nat) (a:Option Addr) (hv:v=.slice a n c) (t:ByteArray) (w:World) (ht:CutTab w) (hs:t.size≤4194304) (h:Lib.cut t.data.toList [32]=(t.data.toList,[],false)) :
  Calls Tryz.prog 148 #[v,.string t] w (EnP 3 t ⟨#[]⟩ [] false w):=by
 subst hv
 go_enter Tryz.func148,Tryz.ntmps148
 go_wp2_with (go_at_call 75;refine (cut_no (ht.keep (alloc_below _ _)) hs h).mono ?_;rintro e w1 ⟨rfl,hb1⟩;obtain ⟨r0,r1,r2,r3,rf,hz1,hbw1⟩:=res4 (hb1.mono (by simp)))
 refine bodyPost_ret (v:=.tuple #[.agg #[.int .i64 3,.string t,.string ⟨#[]⟩,.slice none 0 0],.bool false]) (by simp [results,Tryz.results148,go_sem,r0,r1,r2,r3,rf,hz1]) rfl ?_
 refine ⟨_,rfl,nds_none _ _,?_⟩
 (repeat (first|(with_reducible refine Below.alloc ?_ ?_ _;rotate_left;(first|omega|(simp;done)|(simp;omega)))|(with_reducible refine Below.setCell ?_ ?_ _;rotate_left;(first|exact Nat.le_refl _|(simp;done)|(simp;omega)))|(with_reducible refine Below.drew ?_)));exact hbw1
theorem parse12_yes (v:Value) (n c:Nat) (a:Option Addr) (hv:v=.slice a n c) (t:ByteArray) (x r:List UInt8) (w:World) (ht:CutTab w) (hs:t.size≤4194304) (h:Lib.cut t.data.toList [32]=(x,r,true)) :
  Calls Tryz.prog 148 #[v,.string t] w (EnP 3 (bytesOf x) (bytesOf r) [] true w):=by
 subst hv
 go_enter Tryz.func148,Tryz.ntmps148
 go_wp2_with (go_at_call 75;refine (cut_yes (ht.keep (alloc_below _ _)) hs h).mono ?_;rintro e w1 ⟨rfl,hb1⟩;obtain ⟨r0,r1,r2,r3,rf,hz1,hbw1⟩:=res4 (hb1.mono (by simp)))
 refine bodyPost_ret (v:=.tuple #[.agg #[.int .i64 3,.string (bytesOf x),.string (bytesOf r),.slice none 0 0],.bool true]) (by simp [results,Tryz.results148,go_sem,r0,r1,r2,r3,rf,hz1]) rfl ?_
 refine ⟨_,rfl,nds_none _ _,?_⟩
 (repeat (first|(with_reducible refine Below.alloc ?_ ?_ _;rotate_left;(first|omega|(simp;done)|(simp;omega)))|(with_reducible refine Below.setCell ?_ ?_ _;rotate_left;(first|exact Nat.le_refl _|(simp;done)|(simp;omega)))|(with_reducible refine Below.drew ?_)));exact hbw1
end Go.Proofs.YtldhpaflmnlcaaaGreatDoor
/-
  The program's ParseEntry. Own work.
-/
namespace Go.Proofs.YtldhpaflmnlcaaaGreatDoor
open Go.RowKit
def EntP (o:Option En) (w:World) (e:Ending) (w':World):Prop:=EnP (o.getD e0).kind (o.getD e0).name (o.getD e0).to (o.getD e0).body o.isSome w e w'
theorem pc_yes {s p:ByteArray} {w:World} (h:p.data.toList.isPrefixOf s.data.toList=true) :
  Calls Tryz.prog 94 #[.string s,.string p] w fun e w'=>e=.returned (.tuple #[.string (bytesOf (s.data.toList.drop p.size)),.bool true])∧w'=w:=by
 refine (Tryz.strings_CutPrefix s p w).mono ?_
 rintro e w' ⟨rfl,rfl⟩
 simp [Lib.trimPrefix,Lib.hasPrefix,h,bytesOf]
theorem pc_no {s p:ByteArray} {w:World} (h:p.data.toList.isPrefixOf s.data.toList=false) :
  Calls Tryz.prog 94 #[.string s,.string p] w fun e w'=>e=.returned (.tuple #[.string s,.bool false])∧w'=w:=by
 refine (Tryz.strings_CutPrefix s p w).mono ?_
 rintro e w' ⟨rfl,rfl⟩
 simp [Lib.trimPrefix,Lib.hasPrefix,h]
theorem entP_none {w W:World} (hb:Below w.heap.size w W):EntP none w (.returned (.tuple #[.agg #[.int .i64 0,.string ⟨#[]⟩,.string ⟨#[]⟩,.slice none 0 0],.bool false])) W :=
 ⟨_,rfl,nds_none _ _,hb⟩
theorem implParse_bad (v:Value) (L:List Df) (s:ByteArray) (w:World) (hv:DfsAt w v L) (hn:L.length≤1048576) (hLs:∀ d ∈ L,DfOk d) (hg:good L=false) :
  Calls Tryz.prog 49 #[v,.string s] w (EntP none w):=by
 obtain ⟨a,cap,rfl⟩:∃ a cap,v=.slice a L.length cap:=by obtain ⟨a,cap,rfl,_⟩:=hv;exact ⟨a,cap,rfl⟩
 have HG:=Lib.hid hg
 clear hg
 go_enter Tryz.func49,Tryz.ntmps49
 go_wp2_with (go_at_call 68;refine (isLibrary_any _ L _ (hv.keep (alloc_below _ _)) hn hLs).mono ?_;rintro e1 w1 ⟨rfl,hb1⟩;rw [HG.out];obtain ⟨r0,r1,r2,r3,rf,hz1,hbw1⟩:=res4 (hb1.mono (by simp)))
 refine bodyPost_ret (v:=.tuple #[.agg #[.int .i64 0,.string ⟨#[]⟩,.string ⟨#[]⟩,.slice none 0 0],.bool false]) (by simp [results,Tryz.results49,go_sem,r0,r1,r2,r3,rf,hz1]) rfl ?_
 refine entP_none ?_
 (repeat (first|(with_reducible refine Below.alloc ?_ ?_ _;rotate_left;(first|omega|(simp;done)|(simp;omega)))|(with_reducible refine Below.setCell ?_ ?_ _;rotate_left;(first|exact Nat.le_refl _|(simp;done)|(simp;omega)))|(with_reducible refine Below.drew ?_)));exact hbw1
theorem implParse_0 (v:Value) (L:List Df) (s:ByteArray) (w:World) (hv:DfsAt w v L) (hg:good L=true) (h1:wLet.data.toList.isPrefixOf s.data.toList=false) (h2:wDrop.data.toList.isPrefixOf s.data.toList=false) (h3:wName.data.toList.isPrefixOf s.data.toList=false) :
  Calls Tryz.prog 49 #[v,.string s] w (EntP none w):=by
 obtain ⟨a,cap,rfl⟩:∃ a cap,v=.slice a L.length cap:=by obtain ⟨a,cap,rfl,_⟩:=hv;exact ⟨a,cap,rfl⟩
 obtain ⟨hLo,hLn⟩:=goodLib_okP hg
 have HG:=Lib.hid hg
 have HN1:=Lib.hid h1
 have HN2:=Lib.hid h2
 have HN3:=Lib.hid h3
 have hix0:=fun w=>(kIndex w).1
 have hix1:=fun w=>(kIndex w).2.1
 have hix2:=fun w=>(kIndex w).2.2
 simp only [kV1,kV2,kV3,fv] at hix0 hix1 hix2
 clear hg h1 h2 h3
 go_enter Tryz.func49,Tryz.ntmps49
 go_wp2_with (first|(go_at_call 68;refine (isLibrary_any _ L _ (hv.keep (alloc_below _ _)) hLn hLo).mono ?_;rintro e1 w1 ⟨rfl,hb1⟩;rw [HG.out];have hB1:Below (w.heap.size+1) (w.alloc (.cells #[.int .i64 0,.string ⟨#[]⟩,.string ⟨#[]⟩,.slice none 0 0] 54)) w1:=hb1.mono (by simp))|(go_at_call 93;refine (kinds_any _).mono ?_;rintro e2 w2 ⟨rfl,hb2⟩;have hz2:w.heap.size+1≤w2.heap.size:=(by have h1:=hB1.size;have h2:=hb2.size;simp at h1;omega);have hB2:Below (w.heap.size+1) (w.alloc (.cells #[.int .i64 0,.string ⟨#[]⟩,.string ⟨#[]⟩,.slice none 0 0] 54)) w2:=hB1.trans (hb2.mono (by have h1:=hB1.size;simpa using h1));clear hB1 hb1 hb2))
 refine wp_loop_rounds 4 ?_
 rw [rounds_succ]
 go_wp2_with (go_at_call 94;refine (pc_no (p:=wLet) HN1.out).mono ?_;rintro e8 w8 ⟨rfl,rfl⟩)
 rw [rounds_succ]
 go_wp2_with (go_at_call 94;refine (pc_no (p:=wDrop) HN2.out).mono ?_;rintro e8 w8 ⟨rfl,rfl⟩)
 rw [rounds_succ]
 go_wp2_with (go_at_call 94;refine (pc_no (p:=wName) HN3.out).mono ?_;rintro e8 w8 ⟨rfl,rfl⟩)
 rw [rounds_succ]
 have hA0:Below w2.heap.size w2 w2:=Below.refl _ _
 have hA1:=hA0.alloc hA0.size (.cells #[.func (.func 132) #[] #[],.func (.func 133) #[] #[],.func (.func 136) #[] #[],.func (.func 138) #[] #[],.string wLet] 113)
 have hA2:=hA1.alloc hA1.size (.cells #[.func (.func 139) #[] #[],.func (.func 140) #[] #[],.func (.func 142) #[] #[],.func (.func 143) #[] #[],.string wDrop] 113)
 have hA3:=hA2.alloc hA2.size (.cells #[.func (.func 144) #[] #[],.func (.func 145) #[] #[],.func (.func 147) #[] #[],.func (.func 148) #[] #[],.string wName] 113)
 have hBW:=hB2.trans (hA3.mono hz2)
 generalize hW:((w2.alloc (.cells #[.func (.func 132) #[] #[],.func (.func 133) #[] #[],.func (.func 136) #[] #[],.func (.func 138) #[] #[],.string wLet] 113)).alloc (.cells #[.func (.func 139) #[] #[],.func (.func 140) #[] #[],.func (.func 142) #[] #[],.func (.func 143) #[] #[],.string wDrop] 113)).alloc (.cells #[.func (.func 144) #[] #[],.func (.func 145) #[] #[],.func (.func 147) #[] #[],.func (.func 148) #[] #[],.string wName] 113)=W at hBW hA3 ⊢
 obtain ⟨r0,r1,r2,r3,rf,hz1,hbw1⟩:=res4 hBW
 clear hW hz2 hA0 hA1 hA2 hB2
 go_wp2
 refine bodyPost_ret (v:=.tuple #[.agg #[.int .i64 0,.string ⟨#[]⟩,.string ⟨#[]⟩,.slice none 0 0],.bool false]) (by simp [results,Tryz.results49,go_sem,r0,r1,r2,r3,rf,hz1]) rfl ?_
 refine entP_none ?_
 (repeat (first|(with_reducible refine Below.alloc ?_ ?_ _;rotate_left;(first|omega|(simp;done)|(simp;omega)))|(with_reducible refine Below.setCell ?_ ?_ _;rotate_left;(first|exact Nat.le_refl _|(simp;done)|(simp;omega)))|(with_reducible refine Below.drew ?_)));exact hbw1
theorem str_ne {a b:ByteArray} (h:¬ a=b):(a.toList == b.toList)=false:=by
 rw [ByteArray.toList_eq,ByteArray.toList_eq,beq_eq_false_iff_ne]
 intro e
 apply h
 obtain ⟨a⟩:=a
 obtain ⟨b⟩:=b
 simp only at e
 rw [Array.toList_inj.1 e]
theorem check_text_none {L:List Df} {s:ByteArray} {e:En} (h:textO L e=none):checkE L s (some e)=none:=by
 unfold textO at h
 split at h
 ·cases h
 ·rename_i hn;simp [checkE,hn]
theorem check_text_some {L:List Df} {s:ByteArray} {e:En} (h:textO L e=some s):checkE L s (some e)=some e:=by
 unfold textO at h
 split at h
 ·rename_i hn;simp [checkE,hn,Option.some.inj h]
 ·cases h
theorem check_text_other {L:List Df} {s tx:ByteArray} {e:En} (h:textO L e=some tx) (hne:¬ tx=s):checkE L s (some e)=none:=by
 unfold textO at h
 split at h
 ·rename_i hn;have:=Option.some.inj h;simp [checkE,this,hne]
 ·cases h
end Go.Proofs.YtldhpaflmnlcaaaGreatDoor
