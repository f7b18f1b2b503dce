/-
  The program of a circuit, plain: the gates listed, their last uses, the registers. Own work.
-/
import Derived.Test.YtbljmfcifljkaaaGreatDoorXAP
set_option linter.all false
set_option maxRecDepth 100000
set_option maxHeartbeats 8000000
namespace Go.Proofs.YtbljmfcifljkaaaGreatDoor
set_option maxHeartbeats 1000000
def gNo (gs:List GtI) (k:Int):GtI:=gs.getD k.toNat gt0
def lsAdd (out:List Int) (k:Int):List Int:=if k ∈ out then out else out ++ [k]
def lsOp (gs:List GtI) (out:List Int) (k:Int):List Int:=if cmbB (gNo gs k)=true then out else lsAdd out k
def lsOps (gs:List GtI) (out:List Int) (i:Int) (k:Nat):List Int:=((opsG (gNo gs i)).take k).foldl (lsOp gs) out
def lsG (gs:List GtI) (out:List Int) (i:Int):List Int:=lsAdd (lsOps gs out i (opsG (gNo gs i)).length) i
def lsD (gs:List GtI) (out:List Int) (d:Int):List Int:=lsAdd out (gNo gs d).a
def ls1 (gs:List GtI) (k:Nat):List Int:=((ordC gs).take k).foldl (lsG gs) []
def ls2 (gs:List GtI) (k:Nat):List Int:=((dlyL gs).take k).foldl (lsD gs) (ls1 gs (ordC gs).length)
def ls3 (gs:List GtI) (os:List Int) (k:Nat):List Int:=(os.take k).foldl lsAdd (ls2 gs (dlyL gs).length)
def listL (gs:List GtI) (os:List Int):List Int:=ls3 gs os os.length
theorem foldl_take {α β:Type} (f:β → α → β) (b:β) (l:List α) {k:Nat} (hk:k<l.length):(l.take (k+1)).foldl f b=f ((l.take k).foldl f b) l[k]:=by
 rw [List.take_succ_eq_append_getElem hk,List.foldl_append];rfl
theorem foldl_inv {α β:Type} {f:β → α → β} {P:β → Prop}:∀ (l:List α) (b:β),P b → (∀ x b,x ∈ l → P b → P (f b x)) → P (l.foldl f b)
 | [],b,h,_=>h
 | x :: l,b,h,hs=>foldl_inv l (f b x) (hs x b (by simp) h) (fun y c hy hc=>hs y c (by simp [hy]) hc)
theorem ordGo_mem (nd:List (List Int)):∀ (f:Nat) (dn:List Bool),(ordGo nd f dn).length=dn.count false → ∀ i,∀ h:i<dn.length,dn[i]=false → ((i:Nat):Int) ∈ ordGo nd f dn
 | 0,dn,h,i,hi,hd=>by
  have h0:dn.count false=0:=by rw [← h];rfl
  rw [List.count_eq_zero] at h0
  exact absurd (hd ▸ List.getElem_mem hi) h0
 | f+1,dn,h,i,hi,hd=>by
  cases hn:nxt nd dn dn.length with
  | none =>
   rw [ordGo_end hn] at h
   have h0:dn.count false=0:=by rw [← h];rfl
   rw [List.count_eq_zero] at h0
   exact absurd (hd ▸ List.getElem_mem hi) h0
  | some m =>
   rw [ordGo_step hn] at h ⊢
   obtain ⟨hm,_⟩:=nxt_some hn
   have hc:=dn_count hm (nxt_open hn hm)
   by_cases e:i=m
   ·subst e;simp
   ·refine List.mem_cons_of_mem _ (ordGo_mem nd f (dn.set m true) (by simp only [List.length_cons] at h;omega) i (by simpa using hi) ?_)
    rw [List.getElem_set_ne (fun x=>e x.symm)];exact hd
theorem ordGo_open (nd:List (List Int)):∀ (f:Nat) (dn:List Bool),∀ z ∈ ordGo nd f dn,∃ i:Nat,z=i∧dn[i]?=some false
 | 0,dn,z,hz=>by simp [ordGo] at hz
 | f+1,dn,z,hz=>by
  cases hn:nxt nd dn dn.length with
  | none=>rw [ordGo_end hn] at hz;simp at hz
  | some m =>
   rw [ordGo_step hn] at hz
   obtain ⟨hm,_⟩:=nxt_some hn
   have hd:=nxt_open hn hm
   rcases List.mem_cons.1 hz with rfl|hz
   ·exact ⟨m,rfl,by rw [List.getElem?_eq_getElem hm,hd]⟩
   ·obtain ⟨i,rfl,hi⟩:=ordGo_open nd f _ z hz
    refine ⟨i,rfl,?_⟩
    by_cases e:m=i
    ·subst e
     rw [List.getElem?_set_self hm] at hi
     cases hi
    ·rw [List.getElem?_set_ne e] at hi
     exact hi
theorem ordGo_nodup (nd:List (List Int)):∀ (f:Nat) (dn:List Bool),(ordGo nd f dn).Nodup
 | 0,dn=>List.nodup_nil
 | f+1,dn=>by
  cases hn:nxt nd dn dn.length with
  | none=>rw [ordGo_end hn];exact List.nodup_nil
  | some m =>
   rw [ordGo_step hn,List.nodup_cons]
   have hm:=(nxt_some hn).1
   refine ⟨fun h=>?_,ordGo_nodup nd f _⟩
   obtain ⟨i,e,hi⟩:=ordGo_open nd f _ _ h
   have:i=m:=by omega
   subst this
   rw [List.getElem?_set_self hm] at hi
   cases hi
theorem ordGo_ahead (nd:List (List Int)):∀ (f:Nat) (dn:List Bool) (j:Nat) (hj:j<(ordGo nd f dn).length),∀ k ∈ nd.getD ((ordGo nd f dn)[j]).toNat [],dn.getD k.toNat true=true∨((k.toNat:Nat):Int) ∈ (ordGo nd f dn).take j
 | 0,dn,j,hj,_,_=>by simp [ordGo] at hj
 | f+1,dn,j,hj,k,hk=>by
  cases hn:nxt nd dn dn.length with
  | none=>rw [ordGo_end hn] at hj;simp at hj
  | some m =>
   have es:=ordGo_step (f:=f) hn
   obtain ⟨hm,hf⟩:=nxt_some hn
   have hd:=nxt_open hn hm
   have hrd:rdyB (nd.getD m []) dn=true:=by rw [← frB_open hm hd];exact hf
   simp only [es] at hk hj ⊢
   cases j with
   | zero =>
    simp only [List.getElem_cons_zero,Int.toNat_natCast] at hk
    exact .inl (List.all_eq_true.1 hrd k hk)
   | succ j =>
    simp only [List.getElem_cons_succ] at hk
    rcases ordGo_ahead nd f (dn.set m true) j (by simpa using hj) k hk with h|h
    ·by_cases e:k.toNat=m
     ·exact .inr (by rw [List.take_succ_cons,e];simp)
     ·rw [List.getD_eq_getElem?_getD,List.getElem?_set_ne (fun x=>e x.symm),← List.getD_eq_getElem?_getD] at h
      exact .inl h
    ·exact .inr (by rw [List.take_succ_cons];exact List.mem_cons_of_mem _ h)
theorem dn0_at (gs:List GtI) (i:Nat):(dn0 gs)[i]?=some false ↔ i<gs.length∧cmbB (gNo gs i)=true:=by
 unfold dn0 gNo
 rw [List.getElem?_map,Int.toNat_natCast]
 by_cases h:i<gs.length
 ·rw [List.getElem?_eq_getElem h,List.getD_eq_getElem?_getD,List.getElem?_eq_getElem h]
  simp [h]
 ·rw [List.getElem?_eq_none (by omega)]
  simp [h]
theorem dn0_count (gs:List GtI):(dn0 gs).count false=(gs.filter cmbB).length:=by
 induction gs with
 | nil=>rfl
 | cons g r ih =>
  show List.count false ((!cmbB g) :: dn0 r)=_
  rw [List.count_cons,ih,List.filter_cons]
  cases cmbB g <;> simp
theorem ordC_open {gs:List GtI} {z:Int} (h:z ∈ ordC gs):∃ i:Nat,z=i∧i<gs.length∧cmbB (gNo gs i)=true:=by
 obtain ⟨i,rfl,hi⟩:=ordGo_open _ _ _ z h
 exact ⟨i,rfl,(dn0_at gs i).1 hi⟩
theorem ordC_nodup (gs:List GtI):(ordC gs).Nodup:=ordGo_nodup _ _ _
structure CiOk (p inp:Int) (gs:List GtI) (os:List Int):Prop where
 prime:primeB p=true
 inr:0≤inp∧inp≤8
 len:1≤gs.length∧gs.length≤40
 outs:os.length≤8
 orange:∀ z ∈ os,0≤z∧z<gs.length
 gates:∀ g ∈ gs,gateB p inp gs.length g=true
 full:(ordC gs).length=(gs.filter cmbB).length
theorem ciOk_of {p inp:Int} {gs:List GtI} {os:List Int} (h:circB p inp gs os=true):CiOk p inp gs os:=by
 unfold circB at h
 simp only [Bool.and_eq_true,decide_eq_true_eq] at h
 obtain ⟨h1,h2,h3,h4,h5,h6,h7⟩:=h
 simp only [inB,Bool.and_eq_true,decide_eq_true_eq] at h2 h3
 refine ⟨h1,h2,by omega,h4,fun z hz=>?_,List.all_eq_true.1 h6,h7⟩
 have:=List.all_eq_true.1 h5 z hz
 simp only [inB,Bool.and_eq_true,decide_eq_true_eq] at this
 omega
theorem gNo_mem {gs:List GtI} {z:Int} (h0:0≤z) (h:z<gs.length):gNo gs z ∈ gs:=by
 unfold gNo
 rw [List.getD_eq_getElem?_getD,List.getElem?_eq_getElem (by omega:z.toNat<gs.length)]
 exact List.getElem_mem _
theorem ci_ops {p inp:Int} {gs:List GtI} {os:List Int} (h:CiOk p inp gs os) {i:Int} (h0:0≤i) (hi:i<gs.length):∀ z ∈ opsG (gNo gs i),0≤z∧z<gs.length:=opsG_in (h.gates _ (gNo_mem h0 hi))
theorem dly_mem {gs:List GtI} {d:Int} (h:d ∈ dlyL gs):0≤d∧d<gs.length∧(gNo gs d).kind=5:=by
 unfold dlyL dlyN at h
 obtain ⟨i,hi,rfl⟩:=List.mem_map.1 h
 obtain ⟨h1,h2⟩:=List.mem_filter.1 hi
 have:=List.mem_range.1 h1
 exact ⟨by omega,by omega,by unfold gNo;rw [Int.toNat_natCast];simpa using h2⟩
theorem mem_dly {gs:List GtI} {d:Int} (h0:0≤d) (h:d<gs.length) (hk:(gNo gs d).kind=5):d ∈ dlyL gs:=by
 unfold dlyL dlyN
 refine List.mem_map.2 ⟨d.toNat,List.mem_filter.2 ⟨List.mem_range.2 (by omega),by unfold gNo at hk;simpa using hk⟩,by omega⟩
theorem ci_dly {p inp:Int} {gs:List GtI} {os:List Int} (h:CiOk p inp gs os) {d:Int} (hd:d ∈ dlyL gs):0≤(gNo gs d).a∧(gNo gs d).a<gs.length:=by
 obtain ⟨h0,h1,h2⟩:=dly_mem hd
 refine ci_ops h h0 h1 _ ?_
 unfold opsG
 rw [if_neg (by omega),if_pos (.inr h2)];simp
theorem dly_nodup (gs:List GtI):(dlyL gs).Nodup:=by
 unfold dlyL dlyN
 exact List.nodup_iff_pairwise_ne.2 ((List.pairwise_map.2 ((List.nodup_iff_pairwise_ne.1 (List.nodup_range.filter _)).imp (fun {a b} hab e=>hab (by omega)))))
theorem mem_add (out:List Int) (k z:Int):z ∈ lsAdd out k ↔ z ∈ out∨z=k:=by
 unfold lsAdd
 split
 ·rename_i h
  constructor
  ·exact .inl
  ·rintro (h2|rfl)
   ·exact h2
   ·exact h
 ·simp
structure LsOk (gs:List GtI) (out:List Int):Prop where
 nd:out.Nodup
 rg:∀ z ∈ out,0≤z∧z<gs.length
 cl:∀ j,∀ hj:j<out.length,∀ z ∈ ndsG (gNo gs out[j]),z ∈ out.take j
theorem LsOk.add {gs:List GtI} {out:List Int} (h:LsOk gs out) {k:Int} (h0:0≤k) (hk:k<gs.length) (hc:k ∈ out∨∀ z ∈ ndsG (gNo gs k),z ∈ out):LsOk gs (lsAdd out k):=by
 unfold lsAdd
 split
 ·exact h
 ·rename_i hn
  have hc:=hc.resolve_left hn
  refine ⟨?_,fun z hz=>?_,fun j hj z hz=>?_⟩
  ·rw [List.nodup_append]
   exact ⟨h.nd,by simp,fun a ha b hb e=>by simp at hb;subst hb;subst e;exact hn ha⟩
  ·rcases List.mem_append.1 hz with h2|h2
   ·exact h.rg z h2
   ·simp at h2;subst h2;exact ⟨h0,hk⟩
  ·rw [List.length_append,List.length_singleton] at hj
   by_cases hl:j<out.length
   ·rw [List.getElem_append_left hl] at hz
    rw [List.take_append_of_le_length (by omega)]
    exact h.cl j hl z hz
   ·obtain rfl:j=out.length:=by omega
    rw [List.getElem_append_right (by omega)] at hz
    simp only [Nat.sub_self,List.getElem_cons_zero] at hz
    rw [List.take_left']
    ·exact hc z hz
    ·rfl
theorem nds_not {g:GtI} (h:cmbB g=false):ndsG g=[]:=by unfold ndsG;rw [h];rfl
theorem nds_yes {g:GtI} (h:cmbB g=true):ndsG g=opsG g:=by unfold ndsG;rw [if_pos h]
theorem mem_foldl_op (gs:List GtI):∀ (zs out:List Int) (z:Int),z ∈ zs.foldl (lsOp gs) out ↔ z ∈ out∨(z ∈ zs∧cmbB (gNo gs z)=false)
 | [],out,z=>by simp
 | k :: zs,out,z=>by
  rw [List.foldl_cons,mem_foldl_op gs zs]
  unfold lsOp
  cases hk:cmbB (gNo gs k) with
  | true =>
   simp only [if_true,List.mem_cons]
   constructor
   ·rintro (h|⟨h1,h2⟩)
    ·exact .inl h
    ·exact .inr ⟨.inr h1,h2⟩
   ·rintro (h|⟨rfl|h1,h2⟩)
    ·exact .inl h
    ·rw [hk] at h2;cases h2
    ·exact .inr ⟨h1,h2⟩
  | false =>
   simp only [Bool.false_eq_true,if_false,List.mem_cons,mem_add]
   constructor
   ·rintro ((h|rfl)|⟨h1,h2⟩)
    ·exact .inl h
    ·exact .inr ⟨.inl rfl,hk⟩
    ·exact .inr ⟨.inr h1,h2⟩
   ·rintro (h|⟨rfl|h1,h2⟩)
    ·exact .inl (.inl h)
    ·exact .inl (.inr rfl)
    ·exact .inr ⟨h1,h2⟩
theorem lsOps_all (gs:List GtI) (out:List Int) (i z:Int) (k:Nat):z ∈ lsOps gs out i k ↔ z ∈ out∨(z ∈ (opsG (gNo gs i)).take k∧cmbB (gNo gs z)=false):=mem_foldl_op _ _ _ _
theorem ls1_succ (gs:List GtI) {k:Nat} (hk:k<(ordC gs).length):ls1 gs (k+1)=lsG gs (ls1 gs k) (ordC gs)[k]:=foldl_take _ _ _ hk
theorem ls1_cmb (gs:List GtI):∀ k,k≤(ordC gs).length → ∀ z,z ∈ ls1 gs k → cmbB (gNo gs z)=true → z ∈ (ordC gs).take k
 | 0,_,z,hz,_=>by simp [ls1] at hz
 | k+1,hk,z,hz,hc=>by
  rw [ls1_succ gs (by omega)] at hz
  unfold lsG at hz
  rcases (mem_add _ _ _).1 hz with h|h
  ·rcases (lsOps_all gs _ _ _ _).1 h with h|h
   ·rw [List.take_succ_eq_append_getElem (by omega)]
    exact List.mem_append_left _ (ls1_cmb gs k (by omega) z h hc)
   ·rw [h.2] at hc;cases hc
  ·rw [List.take_succ_eq_append_getElem (by omega)]
   exact List.mem_append_right _ (List.mem_singleton.2 h)
theorem ls1_has (gs:List GtI):∀ k,k≤(ordC gs).length → ∀ z ∈ (ordC gs).take k,z ∈ ls1 gs k
 | 0,_,z,hz=>by simp at hz
 | k+1,hk,z,hz=>by
  rw [ls1_succ gs (by omega)]
  rw [List.take_succ_eq_append_getElem (by omega)] at hz
  unfold lsG
  rw [mem_add,lsOps_all]
  rcases List.mem_append.1 hz with h|h
  ·exact .inl (.inl (ls1_has gs k (by omega) z h))
  ·simp at h;exact .inr h
theorem ls1_new (gs:List GtI) {k:Nat} (hk:k<(ordC gs).length):¬ (ordC gs)[k] ∈ lsOps gs (ls1 gs k) (ordC gs)[k] (opsG (gNo gs (ordC gs)[k])).length:=by
 intro h
 obtain ⟨i,e,_,hc⟩:=ordC_open (List.getElem_mem hk)
 rcases (lsOps_all gs _ _ _ _).1 h with h|h
 ·have h1:=ls1_cmb gs k (by omega) _ h (by rw [e];exact hc)
  obtain ⟨j,hj,e2⟩:=List.mem_iff_getElem.1 h1
  rw [List.length_take] at hj
  rw [List.getElem_take] at e2
  have:=(List.getElem_inj (ordC_nodup gs)).1 e2
  omega
 ·rw [e,hc] at h;cases h.2
theorem ls1_ok {p inp:Int} {gs:List GtI} {os:List Int} (h:CiOk p inp gs os):∀ k,k≤(ordC gs).length → LsOk gs (ls1 gs k)
 | 0,_=>⟨by simp [ls1],by simp [ls1],by simp [ls1]⟩
 | k+1,hk=>by
  rw [ls1_succ gs (by omega)]
  have ih:=ls1_ok h k (by omega)
  obtain ⟨i,e,hi,hc⟩:=ordC_open (List.getElem_mem (show k<(ordC gs).length by omega))
  have hr:=ci_ops h (i:=i) (by omega) (by omega)
  have hahead:=ordGo_ahead (gs.map ndsG) (gs.length+1) (dn0 gs) k (by show k<(ordC gs).length;omega)
  have e3:((gs.map ndsG).getD ((ordC gs)[k]'(by omega)).toNat [])=opsG (gNo gs (ordC gs)[k]):=by
   rw [e]
   unfold gNo at hc ⊢
   rw [Int.toNat_natCast] at hc ⊢
   rw [List.getD_eq_getElem?_getD,List.getElem?_map,List.getElem?_eq_getElem hi]
   rw [List.getD_eq_getElem?_getD,List.getElem?_eq_getElem hi] at hc ⊢
   exact nds_yes hc
  change ∀ z ∈ ((gs.map ndsG).getD ((ordC gs)[k]'(by omega)).toNat []),(dn0 gs).getD z.toNat true=true∨((z.toNat:Nat):Int) ∈ (ordC gs).take k at hahead
  rw [e3] at hahead
  have h1:LsOk gs (lsOps gs (ls1 gs k) (ordC gs)[k] (opsG (gNo gs (ordC gs)[k])).length):=by
   unfold lsOps
   rw [List.take_length]
   refine foldl_inv _ _ ih (fun x b hx hb=>?_)
   unfold lsOp
   split
   ·exact hb
   ·rename_i hcx
    rw [e] at hx
    have:=hr x hx
    refine hb.add this.1 this.2 (.inr ?_)
    rw [nds_not (by simpa using hcx)]
    simp
  unfold lsG
  refine h1.add (by omega) (by omega) (.inr fun z hz=>?_)
  rw [e] at hz
  rw [nds_yes hc,← e] at hz
  have hz2:=hz
  rw [e] at hz2
  have hzr:=hr z hz2
  rw [lsOps_all,List.take_length]
  cases hcz:cmbB (gNo gs z) with
  | false=>exact .inr ⟨hz,rfl⟩
  | true =>
   refine .inl ?_
   rcases hahead z hz with h2|h2
   ·have h3:=(dn0_at gs z.toNat).2 ⟨by omega,by rw [show ((z.toNat:Nat):Int)=z by omega];exact hcz⟩
    rw [List.getD_eq_getElem?_getD,h3] at h2
    cases h2
   ·rw [show ((z.toNat:Nat):Int)=z by omega] at h2
    exact ls1_has gs k (by omega) z h2
theorem ord_all {p inp:Int} {gs:List GtI} {os:List Int} (h:CiOk p inp gs os) {z:Int} (h0:0≤z) (hz:z<gs.length) (hc:cmbB (gNo gs z)=true):z ∈ ls1 gs (ordC gs).length:=by
 refine ls1_has gs _ (Nat.le_refl _) z ?_
 rw [List.take_length]
 have h1:=(dn0_at gs z.toNat).2 ⟨by omega,by rw [show ((z.toNat:Nat):Int)=z by omega];exact hc⟩
 have hl:z.toNat<(dn0 gs).length:=by simp [dn0];omega
 rw [List.getElem?_eq_getElem hl,Option.some.injEq] at h1
 have:=ordGo_mem (gs.map ndsG) (gs.length+1) (dn0 gs) (by rw [dn0_count];exact h.full) z.toNat hl h1
 rwa [show ((z.toNat:Nat):Int)=z by omega] at this
theorem ls_add_any {p inp:Int} {gs:List GtI} {os:List Int} (h:CiOk p inp gs os) {out:List Int} (ho:LsOk gs out) (hs:∀ z ∈ ls1 gs (ordC gs).length,z ∈ out) {k:Int} (h0:0≤k) (hk:k<gs.length):LsOk gs (lsAdd out k):=by
 refine ho.add h0 hk ?_
 cases hc:cmbB (gNo gs k) with
 | true=>exact .inl (hs _ (ord_all h h0 hk hc))
 | false=>exact .inr (by rw [nds_not hc];simp)
theorem ls2_ok {p inp:Int} {gs:List GtI} {os:List Int} (h:CiOk p inp gs os) (k:Nat):LsOk gs (ls2 gs k)∧(∀ z ∈ ls1 gs (ordC gs).length,z ∈ ls2 gs k):=by
 refine foldl_inv (P:=fun out=>LsOk gs out∧∀ z ∈ ls1 gs (ordC gs).length,z ∈ out) _ _ ⟨ls1_ok h _ (Nat.le_refl _),fun _ hz=>hz⟩ (fun d b hd hb=>?_)
 have hr:=ci_dly h (List.mem_of_mem_take hd)
 exact ⟨ls_add_any h hb.1 hb.2 hr.1 hr.2,fun z hz=>(mem_add _ _ _).2 (.inl (hb.2 z hz))⟩
theorem ls3_ok {p inp:Int} {gs:List GtI} {os:List Int} (h:CiOk p inp gs os) (k:Nat):LsOk gs (ls3 gs os k)∧(∀ z ∈ ls1 gs (ordC gs).length,z ∈ ls3 gs os k):=by
 have h2:=ls2_ok h (dlyL gs).length
 refine foldl_inv (P:=fun out=>LsOk gs out∧∀ z ∈ ls1 gs (ordC gs).length,z ∈ out) _ _ h2 (fun d b hd hb=>?_)
 have hr:=h.orange d (List.mem_of_mem_take hd)
 exact ⟨ls_add_any h hb.1 hb.2 hr.1 hr.2,fun z hz=>(mem_add _ _ _).2 (.inl (hb.2 z hz))⟩
theorem mem_foldl_add {α:Type} (f:α → Int):∀ (l:List α) (out:List Int) (z:Int),z ∈ l.foldl (fun o x=>lsAdd o (f x)) out ↔ z ∈ out∨∃ x ∈ l,z=f x
 | [],out,z=>by simp
 | x :: l,out,z=>by
  rw [List.foldl_cons,mem_foldl_add f l,mem_add]
  simp only [List.mem_cons,exists_eq_or_imp,or_assoc]
theorem list_dly {gs:List GtI} {os:List Int} {d:Int} (h:d ∈ dlyL gs):(gNo gs d).a ∈ listL gs os:=by
 have h1:(gNo gs d).a ∈ ls2 gs (dlyL gs).length:=by
  unfold ls2
  rw [List.take_length]
  exact (mem_foldl_add (fun d=>(gNo gs d).a) _ _ _).2 (.inr ⟨d,h,rfl⟩)
 unfold listL ls3
 exact (mem_foldl_add (fun d=>d) _ _ _).2 (.inl h1)
theorem list_out {gs:List GtI} {os:List Int} {k:Int} (h:k ∈ os):k ∈ listL gs os:=by
 unfold listL ls3
 rw [List.take_length]
 exact (mem_foldl_add (fun d=>d) _ _ _).2 (.inr ⟨k,h,rfl⟩)
theorem list_ok {p inp:Int} {gs:List GtI} {os:List Int} (h:CiOk p inp gs os):LsOk gs (listL gs os):=(ls3_ok h _).1
theorem nodup_len {n:Nat} {l:List Int} (hn:l.Nodup) (hr:∀ z ∈ l,0≤z∧z<n):l.length≤n:=by
 have h1:=sum_count n l hr
 have h2:=(sum_one (fun w=>l.count (w:Int)) n (fun w _=>nodup_count.1 hn _)).1
 omega
end Go.Proofs.YtbljmfcifljkaaaGreatDoor
