/-
  What the program's kinds of entries read. Own work.
-/
import Derived.Test.YtldhpaflmnlcaaaGreatDoorQJouE
import Derived.Test.YtldhpaflmnlcaaaGreatDoorQLibW
import Derived.Test.YtldhpaflmnlcaaaGreatDoorQCC
import Derived.Test.YtldhpaflmnlcaaaGreatDoorQHp
set_option linter.all false
namespace Go.Proofs.YtldhpaflmnlcaaaGreatDoor
open Go.RowKit
def EnP (k:Int) (nm to:ByteArray) (b:List Nd) (ok:Bool) (w:World) (e:Ending) (w':World):Prop :=
 ∃ v',e = .returned (.tuple #[.agg #[.int .i64 k,.string nm,.string to,v'],.bool ok])∧NdsOwn w' w.heap.size v' b∧Below w.heap.size w w'
set_option maxRecDepth 100000 in
theorem parse4_any (v:Value) (L:List Df) (t:ByteArray) (w:World) (hv:DfsAt w v L) (hg:good L = true) (hs:t.size≤4194304) :
  Calls Tryz.prog 138 #[v,.string t] w (EnP 1 ((defL L t).getD df0).name ⟨#[]⟩ ((defL L t).getD df0).body (defL L t).isSome w):=by
 obtain ⟨a,cap,rfl⟩:∃ a cap,v = .slice a L.length cap:=by obtain ⟨a,cap,rfl,_⟩:=hv;exact ⟨a,cap,rfl⟩
 obtain ⟨hLo,hLn⟩:=goodLib_okP hg
 have hrd:readD L t = defL L t:=by unfold readD;rw [if_pos hg]
 have hpd:=fun (w1:World) (h1:DfsAt w1 (.slice a L.length cap) L)=>implParseDef_any _ L t w1 h1 hLn hLo hs
 rw [hrd] at hpd
 obtain ⟨r,hr⟩:∃ r,defL L t = r:=⟨_,rfl⟩
 rw [hr] at hpd ⊢
 clear hr hrd hg
 go_enter Tryz.func138,Tryz.ntmps138
 go_wp2_with (go_at_call 19;refine (hpd _ (hv.keep (alloc_below _ _))).mono ?_;rintro e w1 ⟨v1,rfl,ho1,hb1⟩;obtain ⟨a1,c1,rfl⟩:=ho1.slice;obtain ⟨r0,r1,r2,r3,rf,hz1,hbw1⟩:=res4 (hb1.mono (by simp));have ho2:NdsOwn w1 (w.heap.size+1) (.slice a1 (r.getD df0).body.length c1) (r.getD df0).body:=(NdsOwn.mono (by simp) ho1))
 have hlt:w.heap.size < w.heap.size+1:=Nat.lt_succ_self _
 refine bodyPost_ret (v:=.tuple #[.agg #[.int .i64 1,.string (r.getD df0).name,.string ⟨#[]⟩,.slice a1 (r.getD df0).body.length c1],.bool r.isSome]) (by simp [results,Tryz.results138,go_sem,r0,r1,r2,r3,rf,hz1]) rfl ?_
 refine ⟨_,rfl,?_,?_⟩
 ·exact NdsOwn.mono (B:=w.heap.size+1) (by omega) (((((ho2.setLow (a:=⟨w.heap.size,0,none⟩) hlt _).setLow (a:=⟨w.heap.size,1,none⟩) hlt _).setLow (a:=⟨w.heap.size,2,none⟩) hlt _).setLow (a:=⟨w.heap.size,3,none⟩) hlt _).keep (alloc_below _ _))
 ·(repeat (first|(with_reducible refine Below.alloc ?_ ?_ _;rotate_left;(first|omega|(simp;done)|(simp;omega)))|(with_reducible refine Below.setCell ?_ ?_ _;rotate_left;(first|exact Nat.le_refl _|(simp;done)|(simp;omega)))|(with_reducible refine Below.drew ?_)));exact hbw1
theorem parse8_any (v:Value) (n c:Nat) (a:Option Addr) (hv:v = .slice a n c) (t:ByteArray) (w:World) :
  Calls Tryz.prog 143 #[v,.string t] w (EnP 2 t ⟨#[]⟩ [] true w):=by
 subst hv
 go_enter Tryz.func143,Tryz.ntmps143
 go_wp2
 refine bodyPost_ret (v:=.tuple #[.agg #[.int .i64 2,.string t,.string ⟨#[]⟩,.slice none 0 0],.bool true]) (by simp [results,Tryz.results143,go_sem]) rfl ?_
 refine ⟨_,rfl,nds_none _ _,?_⟩
 (repeat (first|(with_reducible refine Below.alloc ?_ ?_ _;rotate_left;(first|omega|(simp;done)|(simp;omega)))|(with_reducible refine Below.setCell ?_ ?_ _;rotate_left;(first|exact Nat.le_refl _|(simp;done)|(simp;omega)))|(with_reducible refine Below.drew ?_)));exact (Below.refl _ _)
theorem parse12_no (v:Value) (n c:Nat) (a:Option Addr) (hv:v = .slice a n c) (t:ByteArray) (w:World) (ht:CutTab w) (hs:t.size≤4194304) (h:Lib.cut t.data.toList [32] = (t.data.toList,[],false)) :
  Calls Tryz.prog 148 #[v,.string t] w (EnP 3 t ⟨#[]⟩ [] false w):=by
 subst hv
 go_enter Tryz.func148,Tryz.ntmps148
 go_wp2_with (go_at_call 75;refine (cut_no (ht.keep (alloc_below _ _)) hs h).mono ?_;rintro e w1 ⟨rfl,hb1⟩;obtain ⟨r0,r1,r2,r3,rf,hz1,hbw1⟩:=res4 (hb1.mono (by simp)))
 refine bodyPost_ret (v:=.tuple #[.agg #[.int .i64 3,.string t,.string ⟨#[]⟩,.slice none 0 0],.bool false]) (by simp [results,Tryz.results148,go_sem,r0,r1,r2,r3,rf,hz1]) rfl ?_
 refine ⟨_,rfl,nds_none _ _,?_⟩
 (repeat (first|(with_reducible refine Below.alloc ?_ ?_ _;rotate_left;(first|omega|(simp;done)|(simp;omega)))|(with_reducible refine Below.setCell ?_ ?_ _;rotate_left;(first|exact Nat.le_refl _|(simp;done)|(simp;omega)))|(with_reducible refine Below.drew ?_)));exact hbw1
theorem parse12_yes (v:Value) (n c:Nat) (a:Option Addr) (hv:v = .slice a n c) (t:ByteArray) (x r:List UInt8) (w:World) (ht:CutTab w) (hs:t.size≤4194304) (h:Lib.cut t.data.toList [32] = (x,r,true)) :
  Calls Tryz.prog 148 #[v,.string t] w (EnP 3 (bytesOf x) (bytesOf r) [] true w):=by
 subst hv
 go_enter Tryz.func148,Tryz.ntmps148
 go_wp2_with (go_at_call 75;refine (cut_yes (ht.keep (alloc_below _ _)) hs h).mono ?_;rintro e w1 ⟨rfl,hb1⟩;obtain ⟨r0,r1,r2,r3,rf,hz1,hbw1⟩:=res4 (hb1.mono (by simp)))
 refine bodyPost_ret (v:=.tuple #[.agg #[.int .i64 3,.string (bytesOf x),.string (bytesOf r),.slice none 0 0],.bool true]) (by simp [results,Tryz.results148,go_sem,r0,r1,r2,r3,rf,hz1]) rfl ?_
 refine ⟨_,rfl,nds_none _ _,?_⟩
 (repeat (first|(with_reducible refine Below.alloc ?_ ?_ _;rotate_left;(first|omega|(simp;done)|(simp;omega)))|(with_reducible refine Below.setCell ?_ ?_ _;rotate_left;(first|exact Nat.le_refl _|(simp;done)|(simp;omega)))|(with_reducible refine Below.drew ?_)));exact hbw1
end Go.Proofs.YtldhpaflmnlcaaaGreatDoor
