/-
  The texts of acts, the program's. Own work.
-/
import Derived.Test.YtbljmfcifljkaaaGreatDoorUAC
import Derived.Test.YtbljmfcifljkaaaGreatDoorUAI
import Derived.Test.YtbljmfcifljkaaaGreatDoorUSA
import Derived.Test.YtbljmfcifljkaaaGreatDoorURU
import Derived.Test.YtbljmfcifljkaaaGreatDoorUU
import Derived.BigQuiet
import Derived.Test.YtbljmfcifljkaaaGreatDoorUSB
import Derived.Test.YtbljmfcifljkaaaGreatDoorUAxX
set_option linter.all false
set_option maxRecDepth 100000
set_option maxHeartbeats 8000000
namespace Go.Proofs.YtbljmfcifljkaaaGreatDoor
open Go.RowKit
set_option maxRecDepth 100000
set_option maxHeartbeats 4000000
theorem actWord_any (k:Int) (w:World):Calls Tryz.prog 125 #[.int .i64 k] w fun e w'=>e=.returned (.string (if inB k 1 6 then acWord k.toNat else ⟨#[]⟩))∧Below w.heap.size w w':=by
 cases hb:inB k 1 6 with
 | false =>
  have HB:=Lib.hid hb
  clear hb
  go_enter Tryz.func125,Tryz.ntmps125
  go_wp2_with (go_at_call 128;refine (within_any _ _ _ _).mono ?_;rintro r w2 ⟨rfl,rfl⟩;rw [HB.out])
  go_ret
  exact ⟨rfl,alloc_below _ _⟩
 | true =>
  have hk:1≤k∧k≤6:=by simpa [inB] using hb
  have HB:=Lib.hid hb
  clear hb
  have h6:k=1∨k=2∨k=3∨k=4∨k=5∨k=6:=by omega
  clear hk
  rcases h6 with rfl|rfl|rfl|rfl|rfl|rfl
  all_goals
   go_enter Tryz.func125,Tryz.ntmps125
   go_wp2_with (go_at_call 128;refine (within_any _ _ _ _).mono ?_;rintro r w2 ⟨rfl,rfl⟩;rw [HB.out])
   go_ret
   exact ⟨rfl,alloc_below _ _⟩
theorem isShort_any (k r a:Int) (w:World):Calls Tryz.prog 126 #[.agg #[.int .i64 k,.int .i64 r,.int .i64 a]] w fun e w'=>e=.returned (.bool (decide (r=0) && decide (a=0)))∧Below w.heap.size w w':=by
 by_cases h1:r=0
 ·subst h1
  by_cases h2:a=0
  ·subst h2
   go_enter Tryz.func126,Tryz.ntmps126
   go_wp2
   go_ret
   exact ⟨rfl,alloc_below _ _⟩
  ·have e2:(a == 0)=false:=by simp [h2]
   have HD:=Lib.hid (decide_eq_false h2)
   clear h2
   go_enter Tryz.func126,Tryz.ntmps126
   go_wp2
   go_ret
   exact ⟨by rw [HD.out];rfl,alloc_below _ _⟩
 ·have e1:(r == 0)=false:=by simp [h1]
  have HD:=Lib.hid (decide_eq_false h1)
  clear h1
  go_enter Tryz.func126,Tryz.ntmps126
  go_wp2
  go_ret
  exact ⟨by rw [HD.out];rfl,alloc_below _ _⟩
def RusQ (L:List Rul) (w:World) (e:Ending) (w':World):Prop:=∃ v,e=.returned v∧RusAt w' v L∧Below w.heap.size w w'
theorem RusP.q {L:List Rul} {w w':World} {e:Ending} (h:RusP L w e w'):RusQ L w e w':=by
 obtain ⟨v,xs,h1,h2,h3,h4⟩:=h
 refine ⟨v,h1,?_,h4⟩
 rw [← h2];exact h3.at
theorem RusAt.shape0 {w:World} {v:Value} {L:List Rul} (h:RusAt w v L):∃ a c,v=.slice a L.length c:=by
 obtain ⟨a,cap,rfl,_⟩:=h;exact ⟨a,cap,rfl⟩
theorem axiomsM_any (s:SnI) (vp ne ni no vf ge gi go:Value) (w:World) (h:SnR w vp ne ni no vf ge gi go s) (hp:2≤s.p∧s.p≤97) (hk:0≤s.k∧s.k<s.p) (hl:0≤s.l∧s.l<s.p) :
  Calls Tryz.prog 127 #[snV s vp ne ni no vf ge gi go] w (RusQ (axL s.p s.k s.l) w):=by
 obtain ⟨⟨a1,c1,rfl⟩,⟨⟨a2,c2,rfl⟩,⟨a3,c3,rfl⟩,a4,c4,rfl⟩,⟨a5,c5,rfl⟩,⟨a6,c6,rfl⟩,⟨a7,c7,rfl⟩,a8,c8,rfl⟩:=h.slices
 unfold snV
 have hA:=alloc_below w (.cells #[.int .i64 s.p,.int .i64 s.k,.int .i64 s.l,.slice a1 s.past.length c1,.int .i64 s.now.wires,.slice a2 s.now.edges.length c2,.slice a3 s.now.ins.length c3,.slice a4 s.now.outs.length c4,.slice a5 s.future.length c5,.int .i64 s.goal.wires,.slice a6 s.goal.edges.length c6,.slice a7 s.goal.ins.length c7,.slice a8 s.goal.outs.length c8] 55)
 have hX:=axioms_any s.p s.k s.l (w.alloc (.cells #[.int .i64 s.p,.int .i64 s.k,.int .i64 s.l,.slice a1 s.past.length c1,.int .i64 s.now.wires,.slice a2 s.now.edges.length c2,.slice a3 s.now.ins.length c3,.slice a4 s.now.outs.length c4,.slice a5 s.future.length c5,.int .i64 s.goal.wires,.slice a6 s.goal.edges.length c6,.slice a7 s.goal.ins.length c7,.slice a8 s.goal.outs.length c8] 55)) hp hk hl
 obtain ⟨L,hL⟩:∃ L,axL s.p s.k s.l=L:=⟨_,rfl⟩
 rw [hL] at hX ⊢
 have HX:=Lib.hid hX
 clear hX hL hp hk hl
 go_enter Tryz.func127,Tryz.ntmps127
 go_wp2_with fail
 refine HX.out.mono ?_
 rintro r w2 hr
 obtain ⟨v,rfl,hat,hb⟩:=hr.q
 obtain ⟨a,c,rfl⟩:=hat.shape0
 go_wp2
 go_ret
 exact ⟨_,rfl,hat,hA.trans (hb.mono hA.size)⟩
def axNm:List ByteArray:=(axT 0 0 0 0 0).map Prod.fst
theorem axNm_eq (k l m s n:Int):(axT k l m s n).map Prod.fst=axNm:=rfl
theorem axNm_ok:∀ n ∈ axNm,32 ∉ n.data.toList∧n.size≤20:=by
 have h:axNm.all (fun n=>!n.data.toList.contains 32 && decide (n.size≤20))=true:=by decide
 intro n hn
 have:=List.all_eq_true.1 h n hn
 simpa using this
theorem ax_names {p k l:Int}:∀ n ∈ (axL p k l).map Rul.name,32 ∉ n.data.toList∧n.size≤60:=by
 intro n hn
 have key:∀ x ∈ axN p k l,32 ∉ x.1.data.toList∧x.1.size≤20:=fun x hx=>axNm_ok _ (by
  rw [← axNm_eq k l ((k * l) % p) ((k+l) % p) (p - 1)]
  exact List.mem_map_of_mem hx)
 have one:∀ x ∈ axN p k l,32 ∉ (rulOf x).name.data.toList∧(rulOf x).name.size≤60:=fun x hx=>⟨(key x hx).1,by have:=(key x hx).2;show x.1.size≤60;omega⟩
 have two:∀ x ∈ axN p k l,32 ∉ (mirOf x).name.data.toList∧(mirOf x).name.size≤60:=fun x hx=>by
  have h1:=key x hx
  refine ⟨?_,?_⟩
  ·show 32 ∉ (bM ++ x.1).data.toList
   rw [app_list]
   simp only [List.mem_append,not_or]
   exact ⟨by decide,h1.1⟩
  ·show (bM ++ x.1).size≤60
   rw [bsize]
   have:bM.size=1:=rfl
   omega
 obtain ⟨r,hr,rfl⟩:=List.mem_map.1 hn
 unfold axL at hr
 simp only [List.mem_append] at hr
 have tk:∀ {α:Type} {y:α} {a:Nat} {l:List α},y ∈ l.take a → y ∈ l:=fun h=>List.mem_of_mem_take h
 have dp:∀ {α:Type} {y:α} {a:Nat} {l:List α},y ∈ l.drop a → y ∈ l:=fun h=>List.mem_of_mem_drop h
 rcases hr with (((hr|hr)|hr)|hr)|hr
 ·obtain ⟨x,hx,rfl⟩:=List.mem_map.1 hr;exact one x (tk hx)
 ·obtain ⟨x,hx,rfl⟩:=List.mem_map.1 hr;exact two x (tk hx)
 ·obtain ⟨x,hx,rfl⟩:=List.mem_map.1 hr;exact one x (dp (tk hx))
 ·obtain ⟨x,hx,rfl⟩:=List.mem_map.1 hr;exact two x (dp (tk hx))
 ·split at hr
  ·simp at hr
  ·obtain ⟨x,hx,rfl⟩:=List.mem_map.1 hr;exact one x (dp hx)
theorem acWord_size (k:Nat):(acWord k).size≤8:=by
 have h:∀ x ∈ acWords,x.size≤8:=by decide
 unfold acWord
 rw [List.getD_eq_getElem?_getD]
 cases hk:acWords[k]? with
 | none=>decide
 | some x=>exact h x (List.mem_of_getElem? hk)
def AcTP (o:Option ByteArray) (w:World) (e:Ending) (w':World):Prop:=∃ t,e=.returned (.tuple #[.string t,.bool o.isSome])∧(∀ u,o=some u → t=u)∧Below w.heap.size w w'
theorem acText_none {ns:List ByteArray} {x:AcI} (h:inB x.kind 1 6=false):acText ns x=none:=by unfold acText;rw [h];rfl
theorem acText_short {ns:List ByteArray} {k r a:Int} (h:inB k 1 6=true) (h2:¬ k≤2):acText ns ⟨k,r,a⟩=if (decide (r=0) && decide (a=0))=true then some (acWord k.toNat) else none:=by
 unfold acText;rw [if_pos h,if_neg h2]
theorem acText_long {ns:List ByteArray} {k r a:Int} (h:inB k 1 6=true) (h2:k≤2):acText ns ⟨k,r,a⟩=if (inB r 0 ((ns.length:Int) - 1) && inB a 0 999)=true then some (acWord k.toNat ++ bSp ++ ns.getD r.toNat ⟨#[]⟩ ++ bSp ++ numT a) else none:=by
 unfold acText;rw [if_pos h,if_pos h2]
theorem name_at {L:List Rul} {i:Nat} (h:i<L.length):(L.map Rul.name).getD i ⟨#[]⟩=L[i].name:=by
 rw [List.getD_eq_getElem?_getD,List.getElem?_eq_getElem (by simpa using h)]
 simp
theorem actText_short (s:SnI) (vp ne ni no vf ge gi go:Value) (k r a:Int) (w:World) (h:SnR w vp ne ni no vf ge gi go s) (hk:¬ (k=1∨k=2)) (ns:List ByteArray) :
  Calls Tryz.prog 60 #[snV s vp ne ni no vf ge gi go,acV ⟨k,r,a⟩] w (AcTP (acText ns ⟨k,r,a⟩) w):=by
 obtain ⟨⟨a1,c1,rfl⟩,⟨⟨a2,c2,rfl⟩,⟨a3,c3,rfl⟩,a4,c4,rfl⟩,⟨a5,c5,rfl⟩,⟨a6,c6,rfl⟩,⟨a7,c7,rfl⟩,a8,c8,rfl⟩:=h.slices
 unfold snV acV
 have hA1:=alloc_below w (.cells #[.int .i64 s.p,.int .i64 s.k,.int .i64 s.l,.slice a1 s.past.length c1,.int .i64 s.now.wires,.slice a2 s.now.edges.length c2,.slice a3 s.now.ins.length c3,.slice a4 s.now.outs.length c4,.slice a5 s.future.length c5,.int .i64 s.goal.wires,.slice a6 s.goal.edges.length c6,.slice a7 s.goal.ins.length c7,.slice a8 s.goal.outs.length c8] 55)
 have hA2:=alloc_below (w.alloc (.cells #[.int .i64 s.p,.int .i64 s.k,.int .i64 s.l,.slice a1 s.past.length c1,.int .i64 s.now.wires,.slice a2 s.now.edges.length c2,.slice a3 s.now.ins.length c3,.slice a4 s.now.outs.length c4,.slice a5 s.future.length c5,.int .i64 s.goal.wires,.slice a6 s.goal.edges.length c6,.slice a7 s.goal.ins.length c7,.slice a8 s.goal.outs.length c8] 55)) (.cells #[.int .i64 k,.int .i64 r,.int .i64 a] 57)
 have hB:=hA1.trans (hA2.mono hA1.size)
 have kX:=Bk.new (w.alloc (.cells #[.int .i64 s.p,.int .i64 s.k,.int .i64 s.l,.slice a1 s.past.length c1,.int .i64 s.now.wires,.slice a2 s.now.edges.length c2,.slice a3 s.now.ins.length c3,.slice a4 s.now.outs.length c4,.slice a5 s.future.length c5,.int .i64 s.goal.wires,.slice a6 s.goal.edges.length c6,.slice a7 s.goal.ins.length c7,.slice a8 s.goal.outs.length c8] 55)) 57 #[.int .i64 k,.int .i64 r,.int .i64 a]
 simp only [World.size_alloc] at kX
 clear hA1 hA2
 have hsh:=isShort_any k r a
 have hwd:=actWord_any k
 obtain ⟨sh,hshh⟩:∃ b,(decide (r=0) && decide (a=0))=b:=⟨_,rfl⟩
 rw [hshh] at hsh
 have n1:(k != 1)=true:=by simp;omega
 have n2:(k != 2)=true:=by simp;omega
 cases hb:inB k 1 6 with
 | false =>
  rw [hb] at hwd
  have HN:=Lib.hid (acText_none (ns:=ns) (x:=⟨k,r,a⟩) hb)
  have HW:=Lib.hid hwd
  clear hb hwd hshh hsh
  go_enter Tryz.func60,Tryz.ntmps60
  obtain ⟨iX,-,zX⟩:=kX.cell
  go_wp2_with fail
  generalize ((w.alloc (.cells #[.int .i64 s.p,.int .i64 s.k,.int .i64 s.l,.slice a1 s.past.length c1,.int .i64 s.now.wires,.slice a2 s.now.edges.length c2,.slice a3 s.now.ins.length c3,.slice a4 s.now.outs.length c4,.slice a5 s.future.length c5,.int .i64 s.goal.wires,.slice a6 s.goal.edges.length c6,.slice a7 s.goal.ins.length c7,.slice a8 s.goal.outs.length c8] 55)).alloc (.cells #[.int .i64 k,.int .i64 r,.int .i64 a] 57))=u0 at *
  refine (HW.out _).mono ?_
  rintro q w1 ⟨rfl,hb1⟩
  clear iX zX
  replace kX:=kX.keep hb1
  obtain ⟨iX,-,zX⟩:=kX.cell
  go_wp2
  go_ret2
  exact ⟨_,by rw [HN.out];rfl,(fun u hu=>by rw [HN.out] at hu;cases hu),hB.trans (hb1.mono hB.size)⟩
 | true =>
  have hk6:1≤k∧k≤6:=by simpa [inB] using hb
  rw [hb] at hwd
  simp only [if_true] at hwd
  have HS:=Lib.hid (acText_short (ns:=ns) (r:=r) (a:=a) hb (by omega))
  rw [hshh] at HS
  have hne:((acWord k.toNat).toList.isEmpty)=false∧(acWord k.toNat).toList ≠ []:=by
   have h2:∀ j:Nat,j<7 → 1≤j → acWord j ≠ ⟨#[]⟩:=by decide
   have h3:=h2 k.toNat (by omega) (by omega)
   have h4:(acWord k.toNat).toList ≠ []:=by
    rw [ByteArray.toList_eq]
    intro e
    apply h3
    generalize acWord k.toNat=u at e ⊢
    cases u
    simp only [ByteArray.mk.injEq]
    exact Array.toList_inj.1 (by simpa using e)
   exact ⟨by cases hh:(acWord k.toNat).toList with
    | nil=>exact absurd hh h4
    | cons _ _=>rfl,h4⟩
  obtain ⟨W,hW⟩:∃ W,acWord k.toNat=W:=⟨_,rfl⟩
  rw [hW] at hwd HS hne
  obtain ⟨hne1,hne2⟩:=hne
  have HW:=Lib.hid hwd
  have HSH:=Lib.hid hsh
  clear hb hwd hk6 hshh hsh hW hk
  cases sh
  all_goals
   go_enter Tryz.func60,Tryz.ntmps60
   obtain ⟨iX,-,zX⟩:=kX.cell
   go_wp2_with fail
   generalize ((w.alloc (.cells #[.int .i64 s.p,.int .i64 s.k,.int .i64 s.l,.slice a1 s.past.length c1,.int .i64 s.now.wires,.slice a2 s.now.edges.length c2,.slice a3 s.now.ins.length c3,.slice a4 s.now.outs.length c4,.slice a5 s.future.length c5,.int .i64 s.goal.wires,.slice a6 s.goal.edges.length c6,.slice a7 s.goal.ins.length c7,.slice a8 s.goal.outs.length c8] 55)).alloc (.cells #[.int .i64 k,.int .i64 r,.int .i64 a] 57))=u0 at *
   refine (HW.out _).mono ?_
   rintro q w1 ⟨rfl,hb1⟩
   clear iX zX
   replace kX:=kX.keep hb1
   have hB1:=hB.trans (hb1.mono hB.size)
   obtain ⟨iX,-,zX⟩:=kX.cell
   go_wp2_with fail
   refine (HSH.out _).mono ?_
   rintro q w2 ⟨rfl,hb2⟩
   go_wp2
   go_ret2
   exact ⟨W,by rw [HS.out];rfl,(fun u hu=>by rw [HS.out] at hu;first|(cases hu;done)|(injection hu)),hB1.trans (hb2.mono hB1.size)⟩
end Go.Proofs.YtbljmfcifljkaaaGreatDoor
/-
  The texts of acts with a rule, the program's; ActText. Own work.
-/
namespace Go.Proofs.YtbljmfcifljkaaaGreatDoor
open Go.RowKit
set_option maxRecDepth 100000
set_option maxHeartbeats 4000000
def axNs (s:SnI):List ByteArray:=(axL s.p s.k s.l).map Rul.name
theorem actText_long (s:SnI) (vp ne ni no vf ge gi go:Value) (k r a:Int) (w:World) (h:SnR w vp ne ni no vf ge gi go s) (htw:twoB s.p s.k s.l=true) (ht:PowTab w) (hk:k=1∨k=2) :
  Calls Tryz.prog 60 #[snV s vp ne ni no vf ge gi go,acV ⟨k,r,a⟩] w (AcTP (acText (axNs s) ⟨k,r,a⟩) w):=by
 obtain ⟨t1,t2,t3⟩:=twoB_in htw
 have hax:=fun (u:World) (hu:Below w.heap.size w u)=>axiomsM_any s vp ne ni no vf ge gi go u (h.keep hu) t1 t2 t3
 unfold snV at hax
 obtain ⟨⟨a1,c1,rfl⟩,⟨⟨a2,c2,rfl⟩,⟨a3,c3,rfl⟩,a4,c4,rfl⟩,⟨a5,c5,rfl⟩,⟨a6,c6,rfl⟩,⟨a7,c7,rfl⟩,a8,c8,rfl⟩:=h.slices
 unfold snV acV
 have hA1:=alloc_below w (.cells #[.int .i64 s.p,.int .i64 s.k,.int .i64 s.l,.slice a1 s.past.length c1,.int .i64 s.now.wires,.slice a2 s.now.edges.length c2,.slice a3 s.now.ins.length c3,.slice a4 s.now.outs.length c4,.slice a5 s.future.length c5,.int .i64 s.goal.wires,.slice a6 s.goal.edges.length c6,.slice a7 s.goal.ins.length c7,.slice a8 s.goal.outs.length c8] 55)
 have hA2:=alloc_below (w.alloc (.cells #[.int .i64 s.p,.int .i64 s.k,.int .i64 s.l,.slice a1 s.past.length c1,.int .i64 s.now.wires,.slice a2 s.now.edges.length c2,.slice a3 s.now.ins.length c3,.slice a4 s.now.outs.length c4,.slice a5 s.future.length c5,.int .i64 s.goal.wires,.slice a6 s.goal.edges.length c6,.slice a7 s.goal.ins.length c7,.slice a8 s.goal.outs.length c8] 55)) (.cells #[.int .i64 k,.int .i64 r,.int .i64 a] 57)
 have hB:=hA1.trans (hA2.mono hA1.size)
 have kS:=(Bk.new w 55 #[.int .i64 s.p,.int .i64 s.k,.int .i64 s.l,.slice a1 s.past.length c1,.int .i64 s.now.wires,.slice a2 s.now.edges.length c2,.slice a3 s.now.ins.length c3,.slice a4 s.now.outs.length c4,.slice a5 s.future.length c5,.int .i64 s.goal.wires,.slice a6 s.goal.edges.length c6,.slice a7 s.goal.ins.length c7,.slice a8 s.goal.outs.length c8]).keep hA2
 have kX:=Bk.new (w.alloc (.cells #[.int .i64 s.p,.int .i64 s.k,.int .i64 s.l,.slice a1 s.past.length c1,.int .i64 s.now.wires,.slice a2 s.now.edges.length c2,.slice a3 s.now.ins.length c3,.slice a4 s.now.outs.length c4,.slice a5 s.future.length c5,.int .i64 s.goal.wires,.slice a6 s.goal.edges.length c6,.slice a7 s.goal.ins.length c7,.slice a8 s.goal.outs.length c8] 55)) 57 #[.int .i64 k,.int .i64 r,.int .i64 a]
 simp only [World.size_alloc] at kX
 clear hA1 hA2 htw h
 have hk6:inB k 1 6=true:=by simp [inB];omega
 have hwd:=actWord_any k
 rw [hk6] at hwd
 simp only [if_true] at hwd
 have htx:=acText_long (ns:=axNs s) (r:=r) (a:=a) hk6 (by omega)
 have hlm:=(axL_small t1 t2 t3).1
 have hnm:=ax_names (p:=s.p) (k:=s.k) (l:=s.l)
 unfold axNs at htx ⊢
 obtain ⟨L,hL⟩:∃ L,axL s.p s.k s.l=L:=⟨_,rfl⟩
 rw [hL] at hax htx hlm hnm ⊢
 clear t1 t2 t3
 rw [List.length_map] at htx
 have hws:=acWord_size k.toNat
 obtain ⟨W,hW⟩:∃ W,acWord k.toNat=W:=⟨_,rfl⟩
 rw [hW] at hwd htx hws
 have HAX:=Lib.hid hax
 have HW:=Lib.hid hwd
 have HNM:=Lib.hid hnm
 have HTX:=Lib.hid htx
 have hw1:IntKind.i64.wrap ((L.length:Int) - 1)=(L.length:Int) - 1:=IntWalk.i64_in _ (by omega)
 obtain ⟨b1,hb1⟩:∃ b,inB r 0 ((L.length:Int) - 1)=b:=⟨_,rfl⟩
 obtain ⟨b2,hb2⟩:∃ b,inB a 0 999=b:=⟨_,rfl⟩
 have HB1:=Lib.hid hb1
 have HB2:=Lib.hid hb2
 have hkk:((k != 1)=false)∨((k != 1)=true∧(k != 2)=false):=by
  rcases hk with rfl|rfl
  ·exact .inl rfl
  ·exact .inr ⟨rfl,rfl⟩
 clear hax hwd hnm htx hL hW hk6 hk hb1 hb2
 rcases hkk with n1|⟨n1,n2⟩
 all_goals
  go_enter Tryz.func60,Tryz.ntmps60
  obtain ⟨iX,-,zX⟩:=kX.cell
  obtain ⟨iS,-,zS⟩:=kS.cell
  go_wp2_with fail
  generalize ((w.alloc (.cells #[.int .i64 s.p,.int .i64 s.k,.int .i64 s.l,.slice a1 s.past.length c1,.int .i64 s.now.wires,.slice a2 s.now.edges.length c2,.slice a3 s.now.ins.length c3,.slice a4 s.now.outs.length c4,.slice a5 s.future.length c5,.int .i64 s.goal.wires,.slice a6 s.goal.edges.length c6,.slice a7 s.goal.ins.length c7,.slice a8 s.goal.outs.length c8] 55)).alloc (.cells #[.int .i64 k,.int .i64 r,.int .i64 a] 57))=u0 at *
  refine (HW.out _).mono ?_
  rintro q w1 ⟨rfl,hb1⟩
  clear iX zX iS zS
  replace kX:=kX.keep hb1
  replace kS:=kS.keep hb1
  have hB1:=hB.trans (hb1.mono hB.size)
  clear hb1 hB
  obtain ⟨iX,-,zX⟩:=kX.cell
  obtain ⟨iS,-,zS⟩:=kS.cell
  go_wp2_with fail
  refine (HAX.out _ hB1).mono ?_
  rintro q w2 ⟨v,rfl,⟨pa,cp,rfl,hcp,hrow⟩,hb2⟩
  clear iX zX iS zS kS
  replace kX:=kX.keep hb2
  have hB2:=hB1.trans (hb2.mono hB1.size)
  clear hb2 hB1
  obtain ⟨iX,-,zX⟩:=kX.cell
  cases b1
  ·go_wp2_with (go_at_call 128;refine (within_any _ _ _ _).mono ?_;rintro q w3 ⟨rfl,rfl⟩;rw [HB1.out])
   go_ret2
   exact ⟨_,by rw [HTX.out,HB1.out];rfl,(fun u hu=>by rw [HTX.out,HB1.out] at hu;cases hu),hB2⟩
  ·cases b2
   ·go_wp2_with (go_at_call 128;refine (within_any _ _ _ _).mono ?_;rintro q w3 ⟨rfl,rfl⟩;first|rw [HB1.out]|rw [HB2.out])
    go_ret2
    exact ⟨_,by rw [HTX.out,HB1.out,HB2.out];rfl,(fun u hu=>by rw [HTX.out,HB1.out,HB2.out] at hu;cases hu),hB2⟩
   ·have hr:0≤r∧r≤(L.length:Int) - 1:=by simpa [inB] using HB1.out
    have ha:0≤a∧a≤999:=by simpa [inB] using HB2.out
    obtain ⟨i,rfl⟩:∃ i:Nat,r=i:=⟨r.toNat,by omega⟩
    have hi:i<L.length:=by omega
    obtain ⟨b,o,rfl,_,hru⟩:=hrow i hi
    have cn:=hru.1
    have bz:=cell_lt cn
    have hnn:=(HNM.out _ (List.mem_map.2 ⟨_,List.getElem_mem hi,rfl⟩)).2
    have hgd:=name_at hi
    obtain ⟨N,hN⟩:∃ N,L[i].name=N:=⟨_,rfl⟩
    rw [hN] at cn hnn hgd
    have HGD:=Lib.hid hgd
    have hsa:=(num_rd ha.1 ha.2).2.2.2
    have htt:=ht.keep hB2
    clear hrow hru hN hgd hr
    have z1:¬ 9223372036854775807<W.size+1:=by omega
    have z2:¬ 9223372036854775807<W.size+1+N.size:=by omega
    have z3:¬ 9223372036854775807<W.size+1+N.size+1:=by omega
    have z4:¬ 9223372036854775807<W.size+1+N.size+1+(numT a).size:=by omega
    go_wp2_with (go_at_call 128;refine (within_any _ _ _ _).mono ?_;rintro q w3 ⟨rfl,rfl⟩;first|rw [HB1.out]|rw [HB2.out])
    have x1:=iX 1
    have x2:=iX 2
    simp at x1 x2
    clear iX
    refine region_grow (C:=Grew w2.drew) 14 (by kernel_rfl) (by kernel_rfl) (by kernel_rfl) (Grew.refl _) ?_
    simp only [List.take_succ_cons,List.take_zero,List.drop_succ_cons,List.drop_zero]
    iterate 12
     refine g_step (fun K hK=>?_)
     refine g_still rfl ?_
     apply Exists.intro
     refine ⟨fun w' hw'=>?_,?_⟩
     ·obtain ⟨hc',hf',_⟩:=bcell hw'
      simp only [World.size_drew] at hc' hf'
      go_simp
      rfl
     go_simp
     refine hK _ _ ?_
     clear hK K
    refine g_step (fun K hK=>?_);refine g_call rfl rfl 92 ?_;apply Exists.intro;refine ⟨fun w' hw'=>?_,?_⟩;(focus go_simp;rfl);refine (itoaBig_any a _ (htt.keep (Below.refl _ _).drew) ha.1 (by omega)).mono ?_;rintro e w3 ⟨rfl,hb3⟩;refine ⟨_,rfl,hb3,?_⟩;go_simp;apply hK;clear hK K
    iterate 1
     refine g_step (fun K hK=>?_)
     refine g_still rfl ?_
     apply Exists.intro
     refine ⟨fun w' hw'=>?_,?_⟩
     ·obtain ⟨hc',hf',_⟩:=bcell hw'
      simp only [World.size_drew] at hc' hf'
      go_simp
      rfl
     go_simp
     refine hK _ _ ?_
     clear hK K
    refine g_nil ?_
    go_wp2
    go_ret2
    exact ⟨_,by rw [HTX.out,HB1.out,HB2.out];rfl,(fun u hu=>by rw [HTX.out,HB1.out,HB2.out] at hu;injection hu with hu;rw [← hu,← HGD.out];rfl),hB2.trans ((Below.refl _ _).drew.trans (hb3.mono (by have:=hB2.size;simp;omega)))⟩
theorem actText_any (s:SnI) (vp ne ni no vf ge gi go:Value) (x:AcI) (w:World) (h:SnR w vp ne ni no vf ge gi go s) (htw:twoB s.p s.k s.l=true) (ht:PowTab w) :
  Calls Tryz.prog 60 #[snV s vp ne ni no vf ge gi go,acV x] w (AcTP (acText (axNs s) x) w):=by
 by_cases hk:x.kind=1∨x.kind=2
 ·exact actText_long s vp ne ni no vf ge gi go x.kind x.rule x.place w h htw ht hk
 ·exact actText_short s vp ne ni no vf ge gi go x.kind x.rule x.place w h hk _
theorem snB_two2 {s:SnI} (h:snB s=true):twoB s.p s.k s.l=true:=by
 cases hb:twoB s.p s.k s.l with
 | true=>rfl
 | false=>rw [snB_two hb] at h;cases h
end Go.Proofs.YtbljmfcifljkaaaGreatDoor
