/-
  strings.Replacer: made of five letters and their texts, it replaces. Own work.
-/
import Derived.Test.YtbljmfcifljkaaaGreatDoorURR
import Derived.Test.YtbljmfcifljkaaaGreatDoorUAX
set_option linter.all false
set_option maxRecDepth 100000
set_option maxHeartbeats 8000000
namespace Go.Proofs.YtbljmfcifljkaaaGreatDoor
open Go.RowKit
set_option maxRecDepth 100000
set_option maxHeartbeats 4000000
def repX (xs:List ByteArray) (s:ByteArray):ByteArray:=⟨(outD (dN (lxL xs)) s.data.toList).toArray⟩
def by0 (x:ByteArray):Nat:=(x.data.toList.headD 0).toNat
def gB (x0 x1 x2 x3 x4:ByteArray) (j:Nat):Nat:=if j=75 then by0 x0 else if j=76 then by0 x1 else if j=77 then by0 x2 else if j=83 then by0 x3 else if j=78 then by0 x4 else j
theorem by0_lt (x:ByteArray):by0 x<256:=UInt8.toNat_lt _
theorem gB_lt (x0 x1 x2 x3 x4:ByteArray) (j:Nat) (h:j<256):gB x0 x1 x2 x3 x4 j<256:=by
 unfold gB
 have h0:=by0_lt x0
 have h1:=by0_lt x1
 have h2:=by0_lt x2
 have h3:=by0_lt x3
 have h4:=by0_lt x4
 repeat' split
 all_goals omega
theorem one_list (x:ByteArray) (h:x.size=1):x.data.toList=[UInt8.ofNat (by0 x)]∧(x[0]'(by omega)).toNat=by0 x:=by
 have hl:x.data.toList.length=1:=by simpa using h
 have h2:(x[0]'(by omega))=x.data.toList[0]'(by omega):=rfl
 have h3:x.data.toList=[x.data.toList[0]'(by omega)]:=by
  apply List.ext_getElem (by simpa using hl)
  intro i h4 h5
  obtain rfl:i=0:=by simp at h5;exact h5
  rfl
 have h4:by0 x=(x.data.toList[0]'(by omega)).toNat:=by
  unfold by0
  rw [List.headD_eq_head?_getD,List.head?_eq_getElem?,List.getElem?_eq_getElem (by omega)]
  rfl
 rw [h4,h2]
 exact ⟨by simpa using h3,rfl⟩
theorem rpB_gB (x0 x1 x2 x3 x4:ByteArray) (s0:x0.size=1) (s1:x1.size=1) (s2:x2.size=1) (s3:x3.size=1) (s4:x4.size=1) (j:Nat):rpB x0 x1 x2 x3 x4 s0 s1 s2 s3 s4 j=.int .u8 (gB x0 x1 x2 x3 x4 j:Int):=by
 unfold rpB gB
 rw [(one_list x0 s0).2,(one_list x1 s1).2,(one_list x2 s2).2,(one_list x3 s3).2,(one_list x4 s4).2]
 repeat' split
 all_goals rfl
theorem u8_eq (c:UInt8) (n:Nat) (hn:n<256):c.toNat=n ↔ c=UInt8.ofNat n:=by
 constructor
 ·intro h;rw [← h];simp
 ·intro h;rw [h];exact UInt8.toNat_ofNat_of_lt' hn
theorem rep_bytes (x0 x1 x2 x3 x4:ByteArray) (s0:x0.size=1) (s1:x1.size=1) (s2:x2.size=1) (s3:x3.size=1) (s4:x4.size=1) (s:ByteArray) :
  bytesOf (s.data.toList.map fun c=>UInt8.ofNat (gB x0 x1 x2 x3 x4 c.toNat))=repX [x0,x1,x2,x3,x4] s:=by
 unfold bytesOf repX outD
 congr 2
 rw [← List.flatMap_singleton' (s.data.toList.map _),List.flatMap_map]
 congr 1
 funext c
 simp only [lxL,repK,List.map_cons,List.map_nil,List.zip_cons_cons,List.zip_nil_left,dN,gB]
 by_cases h0:c.toNat=75
 ·rw [if_pos h0,if_pos ((u8_eq c 75 (by omega)).1 h0)];simp [one_list x0 s0]
 rw [if_neg h0,if_neg (fun h=>h0 ((u8_eq c 75 (by omega)).2 h))]
 by_cases h1:c.toNat=76
 ·rw [if_pos h1,if_pos ((u8_eq c 76 (by omega)).1 h1)];simp [one_list x1 s1]
 rw [if_neg h1,if_neg (fun h=>h1 ((u8_eq c 76 (by omega)).2 h))]
 by_cases h2:c.toNat=77
 ·rw [if_pos h2,if_pos ((u8_eq c 77 (by omega)).1 h2)];simp [one_list x2 s2]
 rw [if_neg h2,if_neg (fun h=>h2 ((u8_eq c 77 (by omega)).2 h))]
 by_cases h3:c.toNat=83
 ·rw [if_pos h3,if_pos ((u8_eq c 83 (by omega)).1 h3)];simp [one_list x3 s3]
 rw [if_neg h3,if_neg (fun h=>h3 ((u8_eq c 83 (by omega)).2 h))]
 by_cases h4:c.toNat=78
 ·rw [if_pos h4,if_pos ((u8_eq c 78 (by omega)).1 h4)];simp [one_list x4 s4]
 rw [if_neg h4,if_neg (fun h=>h4 ((u8_eq c 78 (by omega)).2 h))]
 simp
def RpSt (w:World) (b:Nat) (x0 x1 x2 x3 x4:ByteArray):Prop :=
 (∃ g c,RpNew w b (.slice (some ⟨g,0,none⟩) 10 c) [x0,x1,x2,x3,x4]∧g<b) ∨
 (∃ r,RpHas w b 1 0 r∧TabP (gB x0 x1 x2 x3 x4) b w r∧x0.size=1∧x1.size=1∧x2.size=1∧x3.size=1∧x4.size=1) ∨
 (∃ r,RpHas w b 1 0 r∧StrP (lxL [x0,x1,x2,x3,x4]) b w r)
theorem RpHas.keep {w w':World} {b:Nat} {c m:Int} {r:Value} (h:RpHas w b c m r) (hb:Below w.heap.size w w'):RpHas w' b c m r :=
 ⟨cell_keep hb h.c0,cell_keep hb h.c1,cell_keep hb h.c3,fun j=>(hb.frozen (p:=⟨b,j,none⟩) (cell_lt h.c0)).trans (h.fz j)⟩
theorem OnAt.keep {w w':World} {v:Value} {xs:List ByteArray} (h:OnAt w v xs) (hb:Below w.heap.size w w'):OnAt w' v xs:=by
 obtain ⟨h1,g,o,c,h2,h3,h4⟩:=h
 exact ⟨h1,g,o,c,h2,h3,fun k hk=>⟨cell_keep hb (h4 k hk).1,cell_keep hb (h4 k hk).2⟩⟩
theorem RpNew.keep {w w':World} {b:Nat} {v:Value} {xs:List ByteArray} (h:RpNew w b v xs) (hb:Below w.heap.size w w'):RpNew w' b v xs :=
 ⟨cell_keep hb h.c0,cell_keep hb h.c1,cell_keep hb h.c3,cell_keep hb h.c4,fun j=>(hb.frozen (p:=⟨b,j,none⟩) (cell_lt h.c0)).trans (h.fz j),h.on.keep hb⟩
theorem RpSt.keep {w w':World} {b:Nat} {x0 x1 x2 x3 x4:ByteArray} (h:RpSt w b x0 x1 x2 x3 x4) (hb:Below w.heap.size w w'):RpSt w' b x0 x1 x2 x3 x4:=by
 rcases h with ⟨g,c,h1,h2⟩|⟨r,h1,⟨tb,h2,h3,h4⟩,h5⟩|⟨r,h1,h2⟩
 ·exact .inl ⟨g,c,h1.keep hb,h2⟩
 ·exact .inr (.inl ⟨r,h1.keep hb,⟨tb,h2,h3,h4.keep hb⟩,h5⟩)
 ·exact .inr (.inr ⟨r,h1.keep hb,h2.keep hb⟩)
theorem RpSt.grown {w w':World} {b:Nat} {x0 x1 x2 x3 x4:ByteArray} {row:Option Nat} (h:RpSt w b x0 x1 x2 x3 x4) (hg:w.grownBy w' row) (hr:∀ k,row=some k → b<k∧∃ cs fr,w.heap[k]?=some (.cells cs 32 fr)):RpSt w' b x0 x1 x2 x3 x4:=by
 have hk:∀ (k:Nat) (cs:Array Value) (t:TypeId) (fr:Nat × Nat),w.heap[k]?=some (Obj.cells cs t fr) → t ≠ 32 → w'.heap[k]?=w.heap[k]?:=fun k cs t fr h1 h2=>hg.block k (Array.getElem?_eq_some_iff.1 h1).1 (fun e=>by
  obtain ⟨_,cs',fr',h3⟩:=hr k e.symm
  rw [h1] at h3
  simp only [Option.some.injEq,Obj.cells.injEq] at h3
  exact h2 h3.2.1)
 have hb:∀ k,k≤b → k<w.heap.size → w'.heap[k]?=w.heap[k]?:=fun k h1 h2=>hg.block k h2 (fun e=>by have:=(hr k e.symm).1;omega)
 have hc:∀ {k j:Nat} {u:Value},k≤b → w.cell? ⟨k,j,none⟩=some u → w'.cell? ⟨k,j,none⟩=some u:=fun h1 h2=>(World.cell?_of_block (hb _ h1 (cell_lt h2))).trans h2
 have hhas:∀ {c m:Int} {r:Value},RpHas w b c m r → RpHas w' b c m r:=fun h=>⟨hc (Nat.le_refl _) h.c0,hc (Nat.le_refl _) h.c1,hc (Nat.le_refl _) h.c3,fun j=>(World.frozen?_of_block (a:=⟨b,j,none⟩) (hb b (Nat.le_refl _) (cell_lt h.c0))).trans (h.fz j)⟩
 rcases h with ⟨g,c,h1,h2⟩|⟨r,h1,⟨tb,h2,h3,h4⟩,h5⟩|⟨r,h1,B,tb,gt,h2,h3,f,k1,k2,k3,k4,k5,k6,k7⟩
 ·refine .inl ⟨g,c,⟨hc (Nat.le_refl _) h1.c0,hc (Nat.le_refl _) h1.c1,hc (Nat.le_refl _) h1.c3,hc (Nat.le_refl _) h1.c4,fun j=>(World.frozen?_of_block (a:=⟨b,j,none⟩) (hb b (Nat.le_refl _) (cell_lt h1.c0))).trans (h1.fz j),?_⟩,h2⟩
  obtain ⟨q1,g',o,c',q2,q3,q4⟩:=h1.on
  simp only [Value.slice.injEq,Option.some.injEq,Addr.mk.injEq,and_true,true_and] at q2
  obtain ⟨⟨rfl,rfl⟩,rfl⟩:=q2
  exact ⟨q1,g,0,c,rfl,q3,fun k hk=>⟨hc (by omega) (q4 k hk).1,hc (by omega) (q4 k hk).2⟩⟩
 ·exact .inr (.inl ⟨r,hhas h1,⟨tb,h2,h3,(hk tb _ _ _ h4 (by decide)).trans h4⟩,h5⟩)
 ·have hgt:w'.heap[gt]?=w.heap[gt]?:=by
   rcases k6.2 with ⟨e,_⟩|⟨g,cap,cur,e,_,e2,_⟩
   ·rw [k5] at e;cases e
   ·rw [k5] at e
    simp only [Value.slice.injEq,Option.some.injEq,Addr.mk.injEq,and_true,true_and] at e
    rw [← e.1] at e2
    exact hk gt _ _ _ e2 (by decide)
  refine .inr (.inr ⟨r,hhas h1,B,tb,gt,h2,h3,f,(hk tb _ _ _ k1 (by decide)).trans k1,k2,k3,k4,k5,owns_blk k6 (fun k e=>by rw [k5] at e;simp [Value.ownBlock] at e;subst e;exact hgt),fun c=>?_⟩)
  have h9:=k7 c
  cases hd:dN (lxL [x0,x1,x2,x3,x4]) c with
  | none=>rw [hd] at h9;exact h9
  | some t =>
   rw [hd] at h9
   obtain ⟨g,cap,e,q1,q2,⟨q3,cs,fr,q4⟩,q5⟩:=h9
   have hgg:=hk g _ _ _ q4 (by decide)
   exact ⟨g,cap,e,q1,q2,⟨q3,cs,fr,hgg.trans q4⟩,fun j hj=>(World.cell?_of_block hgg).trans (q5 j hj)⟩
theorem lx_nodup (x0 x1 x2 x3 x4:ByteArray):((lxL [x0,x1,x2,x3,x4]).map Prod.fst).Nodup:=by
 show ([75,76,77,83,78]:List UInt8).Nodup
 decide
theorem lx_sizes {x0 x1 x2 x3 x4:ByteArray} (h:∀ x ∈ [x0,x1,x2,x3,x4],1≤x.size∧x.size≤2):∀ c t,dN (lxL [x0,x1,x2,x3,x4]) c=some t → 1≤t.size∧t.size≤1000:=by
 intro c t ht
 simp only [lxL,repK,List.map_cons,List.map_nil,List.zip_cons_cons,List.zip_nil_left,dN] at ht
 have key:∀ x:ByteArray,x ∈ [x0,x1,x2,x3,x4] → some x=some t → 1≤t.size∧t.size≤1000:=fun x hx e=>by
  cases e;have:=h _ hx;omega
 repeat' split at ht
 ·exact key x0 (by simp) ht
 ·exact key x1 (by simp) ht
 ·exact key x2 (by simp) ht
 ·exact key x3 (by simp) ht
 ·exact key x4 (by simp) ht
 ·cases ht
theorem on_set {w:World} {g c b:Nat} {xs:List ByteArray} (h:OnAt w (.slice (some ⟨g,0,none⟩) 10 c) xs) (hg:g<b) (j:Nat) (u:Value):OnAt (w.setCell ⟨b,j,none⟩ u) (.slice (some ⟨g,0,none⟩) 10 c) xs:=by
 obtain ⟨h1,g',o,c',h2,h3,h4⟩:=h
 simp only [Value.slice.injEq,Option.some.injEq,Addr.mk.injEq,and_true,true_and] at h2
 obtain ⟨⟨rfl,rfl⟩,rfl⟩:=h2
 refine ⟨h1,g,0,c,rfl,h3,fun k hk=>⟨?_,?_⟩⟩
 ·rw [World.cell?_setCell_other _ ⟨b,j,none⟩ ⟨g,0+2 * k,none⟩ _ (by simp only [ne_eq,Addr.mk.injEq,not_and];omega)];exact (h4 k hk).1
 ·rw [World.cell?_setCell_other _ ⟨b,j,none⟩ ⟨g,0+(2 * k+1),none⟩ _ (by simp only [ne_eq,Addr.mk.injEq,not_and];omega)];exact (h4 k hk).2
theorem replace_any (b:Nat) (x0 x1 x2 x3 x4 s:ByteArray) (w:World) (h:RpSt w b x0 x1 x2 x3 x4) (hsz:∀ x ∈ [x0,x1,x2,x3,x4],1≤x.size∧x.size≤2) (hs:s.size≤1000) :
  Calls Tryz.prog 96 #[.pointer (some ⟨b,0,none⟩),.string s] w fun e w'=>e=.returned (.string (repX [x0,x1,x2,x3,x4] s))∧RpSt w' b x0 x1 x2 x3 x4∧Exc (fun k=>k=b) w w':=by
 rcases h with ⟨g,c,h1,h2⟩|⟨r,h1,h2,h3,h4,h5,h6,h7⟩|⟨r,h1,h2⟩
 ·by_cases ha:∃ k,∃ h:k<5,¬ ([x0,x1,x2,x3,x4][k]'h).size=1
  ·refine (replaceS_first (lxL [x0,x1,x2,x3,x4]) rfl (lx_nodup x0 x1 x2 x3 x4) (lx_sizes hsz) b _ _ s w h1 ⟨_,_,_,rfl⟩ hs ?_ (on_set h1.on h2 _ _)).mono ?_
   ·intro W hW hon
    refine (build_str b _ x0 x1 x2 x3 x4 W hW hon ha (fun x hx=>(hsz x hx).2)).mono ?_
    rintro e w2 ⟨tb,gt,rfl,hst,hb2⟩
    exact ⟨_,rfl,⟨_,_,_,rfl,cell_lt hW,hst⟩,hb2⟩
   ·rintro e w2 ⟨rfl,⟨r,hr1,hr2⟩,hx⟩
    exact ⟨rfl,.inr (.inr ⟨r,hr1,hr2⟩),hx⟩
  ·have hall:∀ k,∀ h:k<5,([x0,x1,x2,x3,x4][k]'h).size=1:=fun k hk=>Classical.byContradiction fun hc=>ha ⟨k,hk,hc⟩
   have s0:x0.size=1:=hall 0 (by omega)
   have s1:x1.size=1:=hall 1 (by omega)
   have s2:x2.size=1:=hall 2 (by omega)
   have s3:x3.size=1:=hall 3 (by omega)
   have s4:x4.size=1:=hall 4 (by omega)
   refine (replace_first (gB x0 x1 x2 x3 x4) (gB_lt x0 x1 x2 x3 x4) b _ _ s w h1 ⟨_,_,_,rfl⟩ hs ?_ (on_set h1.on h2 _ _)).mono ?_
   ·intro W hW hon
    refine (build_byte b _ x0 x1 x2 x3 x4 W hW hon s0 s1 s2 s3 s4).mono ?_
    rintro e w2 ⟨tb,htb,rfl,hst,hb2⟩
    have:=cell_lt hW
    exact ⟨_,rfl,⟨tb,rfl,by omega,hst.congr fun j _=>rpB_gB x0 x1 x2 x3 x4 s0 s1 s2 s3 s4 j⟩,hb2⟩
   ·rintro e w2 ⟨rfl,⟨r,hr1,hr2⟩,hx⟩
    exact ⟨by rw [rep_bytes x0 x1 x2 x3 x4 s0 s1 s2 s3 s4],.inr (.inl ⟨r,hr1,hr2,s0,s1,s2,s3,s4⟩),hx⟩
 ·refine (replace_later (gB x0 x1 x2 x3 x4) (gB_lt x0 x1 x2 x3 x4) b r s w h1 h2 hs).mono ?_
  rintro e w2 ⟨rfl,hr1,hr2,hb⟩
  exact ⟨by rw [rep_bytes x0 x1 x2 x3 x4 h3 h4 h5 h6 h7],.inr (.inl ⟨r,hr1,hr2,h3,h4,h5,h6,h7⟩),Below.exc hb⟩
 ·refine (replaceS_later (lxL [x0,x1,x2,x3,x4]) rfl (lx_nodup x0 x1 x2 x3 x4) (lx_sizes hsz) b r s w h1 h2 hs).mono ?_
  rintro e w2 ⟨rfl,hr1,hr2,hb⟩
  exact ⟨rfl,.inr (.inr ⟨r,hr1,hr2⟩),Below.exc hb⟩
theorem repX_eq (k l m s n:Int) (t:ByteArray):repX [numT k,numT l,numT m,numT s,numT n] t=repB (repD k l m s n) t:=rfl
end Go.Proofs.YtbljmfcifljkaaaGreatDoor
