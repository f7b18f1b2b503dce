/-
  The circuit of a graph, plain: each wire has a source, forward and backward alike. Own work.
-/
import Derived.Test.YtbljmfcifljkaaaGreatDoorXAO
set_option linter.all false
set_option maxRecDepth 100000
set_option maxHeartbeats 8000000
namespace Go.Proofs.YtbljmfcifljkaaaGreatDoor
set_option maxHeartbeats 1000000
structure CgOk (g:GrI):Prop where
 good:grB g=true
 mono:monoB g=true
 small:∀ e ∈ g.edges,e.kind≤8
 acy:acyB (g.edges.filter fun e=>e.kind != 8)=true
theorem ed_cases {e:EdI} (h:edB e=true) (hk:e.kind≤8):(e.kind=3∧e.ins.length=1∧e.outs.length=2∧isGt e=false)∨(e.kind=4∧e.outs.length=0∧isGt e=false)∨(isGt e=true∧e.outs.length=1∧e.ins.length≤2∧5≤e.kind):=by
 unfold edB at h
 rw [Bool.and_eq_true,Bool.and_eq_true] at h
 obtain ⟨h1,_,h3⟩:=h
 simp only [inB,Bool.and_eq_true,decide_eq_true_eq] at h1 h3
 have h4:e.kind=3∨e.kind=4∨e.kind=5∨e.kind=6∨e.kind=7∨e.kind=8:=by omega
 rcases h4 with h|h|h|h|h|h
 all_goals
  rw [h] at h3
  simp only [kindW,Prod.mk.injEq] at h3
  try simp at h3
  simp [isGt,gtOf,h]
  try (first|omega|exact List.eq_nil_of_length_eq_zero (by omega))
theorem ed_gt {e:EdI}:isGt e=true ↔ (5≤e.kind∧e.kind≤8):=by
 unfold isGt gtOf
 repeat' split
 all_goals simp
 all_goals omega
theorem cg_edB {g:GrI} (h:grB g=true):∀ e ∈ g.edges,edB e=true:=by
 unfold grB at h
 rw [Bool.and_eq_true,Bool.and_eq_true] at h
 exact List.all_eq_true.1 h.2.1
theorem cg_in {g:GrI} (h:grB g=true):∀ w ∈ g.places,0≤w∧w.toNat<g.wires.toNat:=by
 unfold grB at h
 rw [Bool.and_eq_true,Bool.and_eq_true,Bool.and_eq_true] at h
 intro w hw
 have:=List.all_eq_true.1 h.2.2.1 w hw
 simp only [inB,Bool.and_eq_true,decide_eq_true_eq] at this
 omega
theorem cg_ein {g:GrI} (h:grB g=true) {e:EdI} (he:e ∈ g.edges) {w:Int} (hw:w ∈ e.ins):0≤w∧w.toNat<g.wires.toNat :=
 cg_in h w (List.mem_append_right _ (List.mem_append_right _ (List.mem_flatMap.2 ⟨e,he,List.mem_append_left _ hw⟩)))
theorem cg_eout {g:GrI} (h:grB g=true) {e:EdI} (he:e ∈ g.edges) {w:Int} (hw:w ∈ e.outs):0≤w∧w.toNat<g.wires.toNat :=
 cg_in h w (List.mem_append_right _ (List.mem_append_right _ (List.mem_flatMap.2 ⟨e,he,List.mem_append_right _ hw⟩)))
theorem getD0 {l:List Int} (h:0<l.length):l.getD 0 0=l[0]:=by rw [List.getD_eq_getElem?_getD,List.getElem?_eq_getElem h];rfl
theorem getD1 {l:List Int} (h:1<l.length):l.getD 1 0=l[1]:=by rw [List.getD_eq_getElem?_getD,List.getElem?_eq_getElem h];rfl
theorem mono_parts {g:GrI} (h:monoB g=true):g.origs.Nodup∧(∀ w ∈ g.origs,0≤w∧w<g.wires)∧(g.origs.length:Int)=g.wires:=by
 unfold monoB permB at h
 simp only [Bool.and_eq_true,decide_eq_true_eq,inG,List.all_eq_true,inB] at h
 exact ⟨h.1.2.2,fun w hw=>by have:=h.1.2.1 w hw;omega,h.1.1⟩
theorem cg_nodup {g:GrI} (h:CgOk g):(g.edges.flatMap EdI.outs).Nodup:=by
 have:=(mono_parts h.mono).1
 unfold GrI.origs at this
 exact (List.nodup_append.1 this).2.1
theorem cg_orig {g:GrI} (h:CgOk g) {w:Int} (h0:0≤w) (hw:w<g.wires):w ∈ g.ins∨∃ i,∃ hi:i<g.edges.length,w ∈ g.edges[i].outs:=by
 obtain ⟨h1,h2,h3⟩:=mono_parts h.mono
 have h4:=(once_iff g.wires.toNat g.origs (fun x hx=>by have:=h2 x hx;omega)).1 ⟨by omega,h1⟩ w.toNat (by omega)
 have h5:w ∈ g.origs:=by
  rw [show ((w.toNat:Nat):Int)=w by omega] at h4
  exact List.count_pos_iff.1 (by omega)
 rcases List.mem_append.1 h5 with h6|h6
 ·exact .inl h6
 ·obtain ⟨e,he,hw2⟩:=List.mem_flatMap.1 h6
  obtain ⟨i,hi,rfl⟩:=List.mem_iff_getElem.1 he
  exact .inr ⟨i,hi,hw2⟩
theorem cg_copy {g:GrI} (h:CgOk g) {w:Int} (h0:0≤w) (hw:w<g.wires) (hs:¬ 0≤(srcL g).getD w.toNat (-1)):∃ i,∃ hi:i<g.edges.length,w ∈ g.edges[i].outs∧g.edges[i].kind=3:=by
 rcases cg_orig h h0 hw with h1|⟨i,hi,h1⟩
 ·exact absurd (src_ins g h1 (by omega)) hs
 ·refine ⟨i,hi,h1,?_⟩
  have he:=List.getElem_mem hi
  rcases ed_cases (cg_edB h.good _ he) (h.small _ he) with h2|h2|h2
  ·exact h2.1
  ·have:=List.length_pos_of_mem h1;omega
  ·have h3:g.edges[i].outs.getD 0 0=w:=by
    rw [getD0 (by omega)]
    obtain ⟨j,hj,rfl⟩:=List.mem_iff_getElem.1 h1
    have:j=0:=by omega
    subst this;rfl
   have:=src_gate g hi h2.1 (by rw [h3];omega)
   rw [h3] at this
   exact absurd this hs
theorem cg_cut {g:GrI} (h:CgOk g) {i:Nat} (hi:i<g.edges.length) (hk:g.edges[i].kind=3):∃ j,∃ hj:j<(g.edges.filter fun e=>e.kind != 8).length,(g.edges.filter fun e=>e.kind != 8)[j]=g.edges[i]:=by
 have:g.edges[i] ∈ g.edges.filter fun e=>e.kind != 8:=List.mem_filter.2 ⟨List.getElem_mem hi,by rw [hk];rfl⟩
 obtain ⟨j,hj,e⟩:=List.mem_iff_getElem.1 this
 exact ⟨j,hj,e⟩
theorem in0_mem {e:EdI} (h:0<e.ins.length):in0 e ∈ e.ins:=by unfold in0;rw [getD0 h];exact List.getElem_mem h
theorem cg_total {g:GrI} (h:CgOk g) {w:Int} (h0:0≤w) (hw:w<g.wires):0≤chase (srcL g) g.edges (g.edges.length+1) w:=by
 obtain ⟨r,hr⟩:=acy_rank h.acy
 have key:∀ (n j:Nat) (hj:j<(g.edges.filter fun e=>e.kind != 8).length),r j≤n → (g.edges.filter fun e=>e.kind != 8)[j].kind=3 → ∀ w ∈ (g.edges.filter fun e=>e.kind != 8)[j].outs,0≤chase (srcL g) g.edges (n+2) w:=by
  intro n
  induction n with
  | zero =>
   intro j hj hn hk w hw
   have he:=List.mem_filter.1 (List.getElem_mem hj)
   by_cases hs:0≤(srcL g).getD w.toNat (-1)
   ·rw [chase_here hs];exact hs
   obtain ⟨i,hi,ei⟩:=List.mem_iff_getElem.1 he.1
   rw [← ei] at hw hk
   rw [chase_go hs (bef_eq (cg_nodup h) hi hw)]
   rcases ed_cases (cg_edB h.good _ (List.getElem_mem hi)) (h.small _ (List.getElem_mem hi)) with h2|h2|h2
   ·have hm:=in0_mem (e:=g.edges[i]) (by omega)
    have hrng:=cg_ein h.good (List.getElem_mem hi) hm
    by_cases hs2:0≤(srcL g).getD (in0 g.edges[i]).toNat (-1)
    ·rw [chase_here hs2];exact hs2
    obtain ⟨i2,hi2,hw2,hk2⟩:=cg_copy h hrng.1 (by omega) hs2
    obtain ⟨j2,hj2,e2⟩:=cg_cut h hi2 hk2
    have:=(hr j hj).2 j2 hj2 (by rw [e2,← ei];exact List.any_eq_true.2 ⟨_,hw2,by simpa using hm⟩)
    omega
   ·omega
   ·omega
  | succ n ih =>
   intro j hj hn hk w hw
   have he:=List.mem_filter.1 (List.getElem_mem hj)
   by_cases hs:0≤(srcL g).getD w.toNat (-1)
   ·rw [chase_here hs];exact hs
   obtain ⟨i,hi,ei⟩:=List.mem_iff_getElem.1 he.1
   rw [← ei] at hw hk
   rw [chase_go hs (bef_eq (cg_nodup h) hi hw)]
   rcases ed_cases (cg_edB h.good _ (List.getElem_mem hi)) (h.small _ (List.getElem_mem hi)) with h2|h2|h2
   ·have hm:=in0_mem (e:=g.edges[i]) (by omega)
    have hrng:=cg_ein h.good (List.getElem_mem hi) hm
    by_cases hs2:0≤(srcL g).getD (in0 g.edges[i]).toNat (-1)
    ·rw [chase_here hs2];exact hs2
    obtain ⟨i2,hi2,hw2,hk2⟩:=cg_copy h hrng.1 (by omega) hs2
    obtain ⟨j2,hj2,e2⟩:=cg_cut h hi2 hk2
    have:=(hr j hj).2 j2 hj2 (by rw [e2,← ei];exact List.any_eq_true.2 ⟨_,hw2,by simpa using hm⟩)
    exact ih j2 hj2 (by omega) (by rw [e2];exact hk2) _ (by rw [e2];exact hw2)
   ·omega
   ·omega
 by_cases hs:0≤(srcL g).getD w.toNat (-1)
 ·rw [chase_here hs];exact hs
 obtain ⟨i,hi,hw1,hk⟩:=cg_copy h h0 hw hs
 obtain ⟨j,hj,e⟩:=cg_cut h hi hk
 have hrj:=(hr j hj).1
 have hfl:=List.length_filter_le (fun e:EdI=>e.kind != 8) g.edges
 have h1:=key (r j) j hj (Nat.le_refl _) (by rw [e];exact hk) w (by rw [e];exact hw1)
 have h2:=chase_le h1 (g.edges.length+1 - (r j+2))
 rw [show r j+2+(g.edges.length+1 - (r j+2))=g.edges.length+1 by omega] at h2
 rw [h2];exact h1
def srcV (g:GrI) (w:Int):Int:=chase (srcL g) g.edges (g.edges.length+1) w
theorem srcV_here {g:GrI} {w:Int} (h:0≤(srcL g).getD w.toNat (-1)):srcV g w=(srcL g).getD w.toNat (-1):=chase_here h _
theorem srcV_back {g:GrI} (h:CgOk g) {w:Int} (h0:0≤w) (hw:w<g.wires) (hs:¬ 0≤(srcL g).getD w.toNat (-1)):∃ i,∃ hi:i<g.edges.length,w ∈ g.edges[i].outs∧g.edges[i].ins.length=1∧0≤in0 g.edges[i]∧in0 g.edges[i]<g.wires∧srcV g (in0 g.edges[i])=srcV g w ∧
  chaseN (srcL g) g.edges (g.edges.length+1) (in0 g.edges[i])<chaseN (srcL g) g.edges (g.edges.length+1) w:=by
 obtain ⟨i,hi,hw1,hk⟩:=cg_copy h h0 hw hs
 have hb:=bef_eq (cg_nodup h) hi hw1
 have ht:=cg_total h h0 hw
 rcases ed_cases (cg_edB h.good _ (List.getElem_mem hi)) (h.small _ (List.getElem_mem hi)) with h2|h2|h2
 ·have hm:=in0_mem (e:=g.edges[i]) (by omega)
  have hrng:=cg_ein h.good (List.getElem_mem hi) hm
  refine ⟨i,hi,hw1,h2.2.1,hrng.1,by omega,?_,?_⟩
  ·have ht2:=ht
   rw [chase_go hs hb] at ht2
   unfold srcV
   rw [chase_go hs hb,chase_up _ _ ht2]
  ·rw [chaseN_go hs hb ht];omega
 ·omega
 ·omega
def out0 (e:EdI):Int:=e.outs.getD 0 0
def out1 (e:EdI):Int:=e.outs.getD 1 0
def fireB (l:List Int) (e:EdI):Bool:=decide (e.kind=3) && (decide (0≤l.getD (in0 e).toNat (-1)) && decide (l.getD (out0 e).toNat (-1)<0))
def fire (l:List Int) (e:EdI):List Int:=(l.set (out0 e).toNat (l.getD (in0 e).toNat (-1))).set (out1 e).toNat (l.getD (in0 e).toNat (-1))
structure FwI (g:GrI) (l:List Int):Prop where
 len:l.length=g.wires.toNat
 src:∀ w:Nat,0≤(srcL g).getD w (-1) → l.getD w (-1)=(srcL g).getD w (-1)
 ok:∀ w:Int,0≤w → 0≤l.getD w.toNat (-1) → ∃ k,chase (srcL g) g.edges k w=l.getD w.toNat (-1)
 pair:∀ i,∀ hi:i<g.edges.length,g.edges[i].kind=3 → (0≤l.getD (out0 g.edges[i]).toNat (-1) ↔ 0≤l.getD (out1 g.edges[i]).toNat (-1))
theorem disj_at {E:List EdI} (hn:(E.flatMap EdI.outs).Nodup) {i j:Nat} (hi:i<E.length) (hj:j<E.length) {w:Int} (h1:w ∈ E[i].outs) (h2:w ∈ E[j].outs):E[i]=E[j]:=by
 have:=(bef_eq hn hi h1).symm.trans (bef_eq hn hj h2)
 exact Option.some.inj this
theorem out_mem {e:EdI} (h:e.outs.length=2):out0 e ∈ e.outs∧out1 e ∈ e.outs:=by
 unfold out0 out1
 rw [getD0 (by omega),getD1 (by omega)]
 exact ⟨List.getElem_mem _,List.getElem_mem _⟩
theorem copy_src {g:GrI} (h:CgOk g) {i:Nat} (hi:i<g.edges.length) (hk:g.edges[i].kind=3) {w:Int} (hw:w ∈ g.edges[i].outs):¬ 0≤(srcL g).getD w.toNat (-1):=by
 intro hs
 have hr:=cg_eout h.good (List.getElem_mem hi) hw
 rcases src_only g hs with ⟨u,hu,e⟩|⟨j,hj,hg,e⟩
 ·have h1:=(mono_parts h.mono).1
  have h2:=(mono_parts h.mono).2.1 u (List.mem_append_left _ hu)
  obtain rfl:u=w:=by omega
  unfold GrI.origs at h1
  exact (List.nodup_append.1 h1).2.2 _ hu _ (List.mem_flatMap.2 ⟨_,List.getElem_mem hi,hw⟩) rfl
 ·rcases ed_cases (cg_edB h.good _ (List.getElem_mem hj)) (h.small _ (List.getElem_mem hj)) with h2|h2|h2
  ·rw [h2.2.2.2] at hg;cases hg
  ·rw [h2.2.2] at hg;cases hg
  ·have hm:g.edges[j].outs.getD 0 0 ∈ g.edges[j].outs:=by rw [getD0 (by omega)];exact List.getElem_mem _
   have hr2:=cg_eout h.good (List.getElem_mem hj) hm
   have e2:g.edges[j].outs.getD 0 0=w:=by omega
   rw [e2] at hm
   have:=disj_at (cg_nodup h) hi hj hw hm
   rw [this] at hk
   omega
theorem fw_start {g:GrI} (h:CgOk g):FwI g (srcL g) :=
 ⟨srcL_len g,fun _ _=>rfl,fun w _ hw=>⟨1,chase_here hw 0⟩,fun i hi hk=>by
  rcases ed_cases (cg_edB h.good _ (List.getElem_mem hi)) (h.small _ (List.getElem_mem hi)) with h2|h2|h2
  ·obtain ⟨m0,m1⟩:=out_mem h2.2.2.1
   have a:=copy_src h hi hk m0
   have b:=copy_src h hi hk m1
   exact ⟨fun x=>absurd x a,fun x=>absurd x b⟩
  ·omega
  ·omega⟩
theorem getD_set_self {l:List Int} {i:Nat} {v d:Int} (h:i<l.length):(l.set i v).getD i d=v:=by rw [List.getD_eq_getElem?_getD,List.getElem?_set_self h];rfl
theorem getD_set_ne {l:List Int} {i j:Nat} {v d:Int} (h:¬ j=i):(l.set j v).getD i d=l.getD i d:=by rw [List.getD_eq_getElem?_getD,List.getElem?_set_ne h,← List.getD_eq_getElem?_getD]
theorem fire_at {g:GrI} {l:List Int} {e:EdI} (hl:l.length=g.wires.toNat) (h0:(out0 e).toNat<g.wires.toNat) (h1:(out1 e).toNat<g.wires.toNat) (w:Nat) :
  (fire l e).getD w (-1)=if w=(out0 e).toNat∨w=(out1 e).toNat then l.getD (in0 e).toNat (-1) else l.getD w (-1):=by
 unfold fire
 by_cases hw1:(out1 e).toNat=w
 ·rw [if_pos (.inr hw1.symm),← hw1,getD_set_self (by rw [List.length_set];omega)]
 ·rw [getD_set_ne hw1]
  by_cases hw0:(out0 e).toNat=w
  ·rw [if_pos (.inl hw0.symm),← hw0,getD_set_self (by omega)]
  ·rw [getD_set_ne hw0,if_neg (by omega)]
theorem fw_fire {g:GrI} (h:CgOk g) {l:List Int} (hf:FwI g l) {i:Nat} (hi:i<g.edges.length) (hb:fireB l g.edges[i]=true):FwI g (fire l g.edges[i]):=by
 unfold fireB at hb
 simp only [Bool.and_eq_true,decide_eq_true_eq] at hb
 obtain ⟨hk,hv,hn⟩:=hb
 have hsh:g.edges[i].ins.length=1∧g.edges[i].outs.length=2:=by
  rcases ed_cases (cg_edB h.good _ (List.getElem_mem hi)) (h.small _ (List.getElem_mem hi)) with h2|h2|h2
  ·exact ⟨h2.2.1,h2.2.2.1⟩
  ·omega
  ·omega
 obtain ⟨m0,m1⟩:=out_mem hsh.2
 have r0:=cg_eout h.good (List.getElem_mem hi) m0
 have r1:=cg_eout h.good (List.getElem_mem hi) m1
 have hat:=fun w=>fire_at (e:=g.edges[i]) hf.len r0.2 r1.2 w
 have s0:=copy_src h hi hk m0
 have s1:=copy_src h hi hk m1
 refine ⟨by unfold fire;rw [List.length_set,List.length_set];exact hf.len,fun w hw=>?_,fun w hneg hw=>?_,fun j hj hkj=>?_⟩
 ·rw [hat,if_neg]
  ·exact hf.src w hw
  ·rintro (e|e)
   ·rw [e] at hw;exact s0 hw
   ·rw [e] at hw;exact s1 hw
 ·rw [hat] at hw ⊢
  by_cases hc:w.toNat=(out0 g.edges[i]).toNat∨w.toNat=(out1 g.edges[i]).toNat
  ·rw [if_pos hc]
   obtain ⟨k,hk2⟩:=hf.ok (in0 g.edges[i]) (cg_ein h.good (List.getElem_mem hi) (in0_mem (by omega))).1 hv
   have hw2:w ∈ g.edges[i].outs:=by
    rcases hc with hc|hc
    ·obtain rfl:w=out0 g.edges[i]:=by omega
     exact m0
    ·obtain rfl:w=out1 g.edges[i]:=by omega
     exact m1
   have hs:¬ 0≤(srcL g).getD w.toNat (-1):=copy_src h hi hk hw2
   exact ⟨k+1,by rw [chase_go hs (bef_eq (cg_nodup h) hi hw2)];exact hk2⟩
  ·rw [if_neg hc] at hw ⊢
   exact hf.ok w hneg hw
 ·rcases ed_cases (cg_edB h.good _ (List.getElem_mem hj)) (h.small _ (List.getElem_mem hj)) with h2|h2|h2
  ·obtain ⟨n0,n1⟩:=out_mem h2.2.2.1
   have q0:=cg_eout h.good (List.getElem_mem hj) n0
   have q1:=cg_eout h.good (List.getElem_mem hj) n1
   by_cases he:g.edges[j]=g.edges[i]
   ·rw [he,hat,hat,if_pos (.inl rfl),if_pos (.inr rfl)]
   ·have hne:∀ w,w ∈ g.edges[j].outs → ∀ u,u ∈ g.edges[i].outs → ¬ w.toNat=u.toNat:=fun w hw u hu e=>by
     have a:=cg_eout h.good (List.getElem_mem hj) hw
     have b:=cg_eout h.good (List.getElem_mem hi) hu
     obtain rfl:w=u:=by omega
     exact he (disj_at (cg_nodup h) hj hi hw hu)
    rw [hat,hat,if_neg,if_neg]
    ·exact hf.pair j hj hkj
    ·rintro (e|e)
     ·exact hne _ n1 _ m0 e
     ·exact hne _ n1 _ m1 e
    ·rintro (e|e)
     ·exact hne _ n0 _ m0 e
     ·exact hne _ n0 _ m1 e
  ·omega
  ·omega
def negN (l:List Int):Nat:=l.countP fun x=>decide (x<0)
theorem neg_set {l:List Int} {i:Nat} {v:Int} (hv:0≤v):negN (l.set i v)≤negN l:=by
 induction l generalizing i with
 | nil=>simp
 | cons x l ih =>
  cases i with
  | zero =>
   unfold negN
   rw [List.set_cons_zero,List.countP_cons,List.countP_cons]
   have:decide (v<0)=false:=by simpa using hv
   rw [this]
   simp
  | succ i =>
   have:=ih (i:=i)
   unfold negN at this ⊢
   rw [List.set_cons_succ,List.countP_cons,List.countP_cons]
   omega
theorem neg_less {l:List Int} {i:Nat} {v:Int} (hv:0≤v) (hi:i<l.length) (hl:l.getD i (-1)<0):negN (l.set i v)<negN l:=by
 induction l generalizing i with
 | nil=>simp at hi
 | cons x l ih =>
  cases i with
  | zero =>
   unfold negN
   rw [List.set_cons_zero,List.countP_cons,List.countP_cons]
   have h1:decide (v<0)=false:=by simpa using hv
   have h2:decide (x<0)=true:=by simpa using hl
   rw [h1,h2]
   simp
  | succ i =>
   have:=ih (i:=i) (by simpa using hi) (by simpa using hl)
   unfold negN at this ⊢
   rw [List.set_cons_succ,List.countP_cons,List.countP_cons]
   omega
theorem neg_fire {l:List Int} {e:EdI} (hb:fireB l e=true) (h0:(out0 e).toNat<l.length):negN (fire l e)<negN l:=by
 unfold fireB at hb
 simp only [Bool.and_eq_true,decide_eq_true_eq] at hb
 have h1:=neg_less (v:=l.getD (in0 e).toNat (-1)) hb.2.1 h0 hb.2.2
 have h2:=neg_set (l:=l.set (out0 e).toNat (l.getD (in0 e).toNat (-1))) (i:=(out1 e).toNat) hb.2.1
 unfold fire
 omega
theorem fw_end {g:GrI} (h:CgOk g) {l:List Int} (hf:FwI g l) (hc:∀ i,∀ hi:i<g.edges.length,fireB l g.edges[i]=false) {w:Int} (h0:0≤w) (hw:w<g.wires):l.getD w.toNat (-1)=srcV g w:=by
 have key:∀ (k:Nat) (w:Int),0≤w → w<g.wires → 0≤chase (srcL g) g.edges k w → 0≤l.getD w.toNat (-1):=by
  intro k
  induction k with
  | zero=>intro w _ _ hcw;simp [chase] at hcw
  | succ k ih =>
   intro w h0 hw hcw
   by_cases hs:0≤(srcL g).getD w.toNat (-1)
   ·rw [hf.src _ hs];exact hs
   obtain ⟨i,hi,hw1,hk⟩:=cg_copy h h0 hw hs
   rw [chase_go hs (bef_eq (cg_nodup h) hi hw1)] at hcw
   rcases ed_cases (cg_edB h.good _ (List.getElem_mem hi)) (h.small _ (List.getElem_mem hi)) with h2|h2|h2
   ·have hm:=in0_mem (e:=g.edges[i]) (by omega)
    have hrng:=cg_ein h.good (List.getElem_mem hi) hm
    have hin:=ih _ hrng.1 (by omega) hcw
    have hcl:=hc i hi
    have ho0:0≤l.getD (out0 g.edges[i]).toNat (-1):=by
     unfold fireB at hcl
     rw [decide_eq_true hk,decide_eq_true hin,Bool.true_and,Bool.true_and] at hcl
     simpa using hcl
    have ho1:=(hf.pair i hi hk).1 ho0
    obtain ⟨j,hj,rfl⟩:=List.mem_iff_getElem.1 hw1
    have e0:out0 g.edges[i]=g.edges[i].outs[0]'(by omega):=getD0 (by omega)
    have e1:out1 g.edges[i]=g.edges[i].outs[1]'(by omega):=getD1 (by omega)
    have hj2:j=0∨j=1:=by omega
    rcases hj2 with rfl|rfl
    ·rw [← e0];exact ho0
    ·rw [← e1];exact ho1
   ·omega
   ·omega
 have ht:=cg_total h h0 hw
 have hl:=key _ w h0 hw ht
 obtain ⟨k,hk⟩:=hf.ok w h0 hl
 rw [← hk] at hl ⊢
 exact chase_same hl ht
def fullG (v:Int → Int) (e:EdI):GtI:={ bareG e with a:=if 0<e.ins.length then v (e.ins.getD 0 0) else 0,b:=if 1<e.ins.length then v (e.ins.getD 1 0) else 0 }
def crGs (g:GrI):List GtI:=inGs g.ins.length ++ (gtE g.edges).map (fullG (srcV g))
def crOs (g:GrI):List Int:=g.outs.map (srcV g)
end Go.Proofs.YtbljmfcifljkaaaGreatDoor
