/-
  The program of a circuit, plain: last uses, registers, the code. Own work.
-/
import Derived.Test.YtbljmfcifljkaaaGreatDoorXAQ
set_option linter.all false
set_option maxRecDepth 100000
set_option maxHeartbeats 8000000
namespace Go.Proofs.YtbljmfcifljkaaaGreatDoor
set_option maxHeartbeats 1000000
def usesL (gs:List GtI) (os:List Int):List (List Int):=(listL gs os).map (fun i=>ndsG (gNo gs i)) ++ ((dlyL gs).map (fun d=>[(gNo gs d).a]) ++ os.map fun k=>[k])
def later (U:List (List Int)) (t:Nat) (g:Int):Bool:=(U.drop (t+1)).any fun l=>decide (g ∈ l)
def luU (t:Nat) (u:List Int) (l:List Int):List Int:=u.foldl (fun l a=>l.set a.toNat t) l
def luK (U:List (List Int)) (n:Nat):Nat → List Int
 | 0=>List.replicate n (-1)
 | k+1=>luU k (U.getD k []) (luK U n k)
theorem luU_len (t:Nat):∀ (u l:List Int),(luU t u l).length=l.length
 | [],l=>rfl
 | a :: u,l=>by
  show (luU t u (l.set a.toNat t)).length=_
  rw [luU_len t u,List.length_set]
theorem luU_at (t:Nat):∀ (u l:List Int) (g:Nat),g<l.length → (∀ a ∈ u,0≤a) → (luU t u l).getD g (-1)=if (g:Int) ∈ u then (t:Int) else l.getD g (-1)
 | [],l,g,hg,_=>by simp [luU]
 | a :: u,l,g,hg,h=>by
  show (luU t u (l.set a.toNat t)).getD g (-1)=_
  rw [luU_at t u _ g (by simpa using hg) (fun a ha=>h a (by simp [ha]))]
  have ha:=h a (by simp)
  by_cases h1:(g:Int) ∈ u
  ·rw [if_pos h1,if_pos (by simp [h1])]
  ·rw [if_neg h1]
   by_cases h2:a.toNat=g
   ·rw [← h2,getD_set_self (by omega),if_pos (by rw [show ((a.toNat:Nat):Int)=a by omega];simp)]
   ·rw [getD_set_ne h2,if_neg (by simp only [List.mem_cons,not_or];exact ⟨by omega,h1⟩)]
theorem luK_len (U:List (List Int)) (n:Nat):∀ k,(luK U n k).length=n
 | 0=>by simp [luK]
 | k+1=>by
  show (luU k (U.getD k []) (luK U n k)).length=n
  rw [luU_len,luK_len U n k]
theorem getD_nn {U:List (List Int)} (h:∀ u ∈ U,∀ a ∈ u,(0:Int)≤a) (k:Nat):∀ a ∈ U.getD k [],0≤a:=by
 rw [List.getD_eq_getElem?_getD]
 by_cases hk:k<U.length
 ·rw [List.getElem?_eq_getElem hk];exact h _ (List.getElem_mem hk)
 ·rw [List.getElem?_eq_none (by omega)];simp
theorem luK_lt (U:List (List Int)) (n:Nat) (hU:∀ u ∈ U,∀ a ∈ u,(0:Int)≤a) {g:Nat} (hg:g<n):∀ k,(luK U n k).getD g (-1)<k
 | 0=>by simp [luK,List.getD_eq_getElem?_getD,List.getElem?_replicate_of_lt hg]
 | k+1=>by
  show (luU k (U.getD k []) (luK U n k)).getD g (-1)<_
  rw [luU_at _ _ _ _ (by rw [luK_len];exact hg) (getD_nn hU k)]
  have ih:=luK_lt U n hU hg k
  split <;> omega
theorem lu_le (U:List (List Int)) (n:Nat) (hU:∀ u ∈ U,∀ a ∈ u,(0:Int)≤a) {g:Nat} (hg:g<n) (t:Nat):∀ m,(luK U n (t+1+m)).getD g (-1)≤t ↔ ∀ j,t<j → j<t+1+m → ¬ (g:Int) ∈ U.getD j []
 | 0=>by
  have:=luK_lt U n hU hg (t+1)
  constructor
  ·intro _ j h1 h2;omega
  ·intro _;simp only [Nat.add_zero];omega
 | m+1=>by
  have ih:=lu_le U n hU hg t m
  show (luU (t+1+m) (U.getD (t+1+m) []) (luK U n (t+1+m))).getD g (-1)≤_ ↔ _
  rw [luU_at _ _ _ _ (by rw [luK_len];exact hg) (getD_nn hU _)]
  by_cases h:(g:Int) ∈ U.getD (t+1+m) []
  ·rw [if_pos h]
   constructor
   ·intro h2;omega
   ·intro h2;exact absurd h (h2 _ (by omega) (by omega))
  ·rw [if_neg h,ih]
   constructor
   ·intro h2 j hj1 hj2
    by_cases e:j=t+1+m
    ·rw [e];exact h
    ·exact h2 j hj1 (by omega)
   ·intro h2 j hj1 hj2;exact h2 j hj1 (by omega)
theorem last_later (U:List (List Int)) (n:Nat) (hU:∀ u ∈ U,∀ a ∈ u,(0:Int)≤a) {g:Nat} (hg:g<n) {t:Nat} (ht:t<U.length):decide ((luK U n U.length).getD g (-1)≤t)=!later U t g:=by
 have h1:=lu_le U n hU hg t (U.length - (t+1))
 rw [show t+1+(U.length - (t+1))=U.length by omega] at h1
 rw [Bool.eq_iff_iff,decide_eq_true_eq,h1,Bool.not_eq_true',later,List.any_eq_false]
 constructor
 ·intro h l hl
  obtain ⟨j,hj,rfl⟩:=List.mem_iff_getElem.1 hl
  rw [List.length_drop] at hj
  have:=h (t+1+j) (by omega) (by omega)
  rw [List.getElem_drop]
  rw [List.getD_eq_getElem?_getD,List.getElem?_eq_getElem (by omega)] at this
  simpa using this
 ·intro h j h2 h3
  rw [List.getD_eq_getElem?_getD,List.getElem?_eq_getElem h3]
  have hm:U[j] ∈ U.drop (t+1):=List.mem_iff_getElem.2 ⟨j - (t+1),by rw [List.length_drop];omega,by rw [List.getElem_drop];congr 1;omega⟩
  simpa using h _ hm
structure InI where
 op:Int
 r:Int
 a:Int
 b:Int
 value:Int
 deriving DecidableEq
structure PgI where
 inputs:Int
 outputs:Int
 cells:Int
 regs:Int
 code:List InI
 deriving DecidableEq
structure CmS where
 holds:List Int
 reg:List Int
 code:List InI
def freeB (U:List (List Int)) (t:Nat) (h:Int):Bool:=!(decide (0≤h) && later U t h)
def rgS (U:List (List Int)) (t:Nat) (holds:List Int):Nat:=holds.findIdx (freeB U t)
def hold1 (holds:List Int) (r:Nat):List Int:=if r=holds.length then holds ++ [-1] else holds
def dix (dl:List Int) (i:Int):Int:=if i ∈ dl then (dl.idxOf i:Int) else 0
def insOf (gs:List GtI) (dl reg:List Int) (i:Int) (r:Nat):InI :=
 let g:=gNo gs i
 if g.kind=1 then ⟨1,r,g.value,0,0⟩ else if g.kind=2 then ⟨2,r,0,0,0⟩ else if g.kind=3 then ⟨3,r,reg.getD g.a.toNat (-1),reg.getD g.b.toNat (-1),0⟩
 else if g.kind=4 then ⟨4,r,reg.getD g.a.toNat (-1),0,g.value⟩ else ⟨5,r,dix dl i,0,0⟩
def cmSt (gs:List GtI) (U:List (List Int)) (dl:List Int) (t:Nat) (s:CmS) (i:Int):CmS :=
 ⟨(hold1 s.holds (rgS U t s.holds)).set (rgS U t s.holds) i,s.reg.set i.toNat (rgS U t s.holds),s.code ++ [insOf gs dl s.reg i (rgS U t s.holds)]⟩
def cmGo (gs:List GtI) (U:List (List Int)) (dl ls:List Int):Nat → CmS
 | 0=>⟨[],List.replicate gs.length (-1),[]⟩
 | k+1=>cmSt gs U dl k (cmGo gs U dl ls k) (ls.getD k 0)
def stoL (gs:List GtI) (dl reg:List Int) (k:Nat):List InI:=(List.range k).map fun j:Nat=>⟨6,reg.getD (gNo gs (dl.getD j 0)).a.toNat (-1),j,0,0⟩
def outL (os reg:List Int) (k:Nat):List InI:=(List.range k).map fun j:Nat=>⟨7,reg.getD (os.getD j 0).toNat (-1),j,0,0⟩
theorem stoL_succ (gs:List GtI) (dl reg:List Int) (k:Nat):stoL gs dl reg (k+1)=stoL gs dl reg k ++ [⟨6,reg.getD (gNo gs (dl.getD k 0)).a.toNat (-1),k,0,0⟩]:=by unfold stoL;rw [List.range_succ,List.map_append];rfl
theorem outL_succ (os reg:List Int) (k:Nat):outL os reg (k+1)=outL os reg k ++ [⟨7,reg.getD (os.getD k 0).toNat (-1),k,0,0⟩]:=by unfold outL;rw [List.range_succ,List.map_append];rfl
def cmK (gs:List GtI) (os:List Int) (k:Nat):CmS:=cmGo gs (usesL gs os) (dlyL gs) (listL gs os) k
def cmEnd (gs:List GtI) (os:List Int):CmS:=cmK gs os (listL gs os).length
def progL (inp:Int) (gs:List GtI) (os:List Int):PgI :=
 ⟨inp,os.length,(dlyL gs).length,(cmEnd gs os).holds.length,(cmEnd gs os).code ++ (stoL gs (dlyL gs) (cmEnd gs os).reg (dlyL gs).length ++ outL os (cmEnd gs os).reg os.length)⟩
def insB (p inp out cells regs:Int) (i:InI):Bool :=
 if i.op=1 then inB i.r 0 (regs - 1) && (inB i.a 0 (inp - 1) && (decide (i.b=0) && decide (i.value=0)))
 else if i.op=2 then inB i.r 0 (regs - 1) && (decide (i.a=0) && (decide (i.b=0) && decide (i.value=0)))
 else if i.op=3 then inB i.r 0 (regs - 1) && (inB i.a 0 (regs - 1) && (inB i.b 0 (regs - 1) && decide (i.value=0)))
 else if i.op=4 then inB i.r 0 (regs - 1) && (inB i.a 0 (regs - 1) && (decide (i.b=0) && inB i.value 0 (p - 1)))
 else if i.op=5∨i.op=6 then inB i.r 0 (regs - 1) && (inB i.a 0 (cells - 1) && (decide (i.b=0) && decide (i.value=0)))
 else if i.op=7 then inB i.r 0 (regs - 1) && (inB i.a 0 (out - 1) && (decide (i.b=0) && decide (i.value=0)))
 else false
theorem hold1_len (holds:List Int) (r:Nat) (h:r≤holds.length):r<(hold1 holds r).length∧holds.length≤(hold1 holds r).length∧((hold1 holds r).length=if r=holds.length then holds.length+1 else holds.length):=by
 unfold hold1
 split
 ·simp;omega
 ·omega
theorem rgS_le (U:List (List Int)) (t:Nat) (holds:List Int):rgS U t holds≤holds.length:=List.findIdx_le_length
theorem dix_in {dl:List Int} {i:Int} (h:i ∈ dl):0≤dix dl i∧dix dl i<dl.length:=by
 unfold dix
 rw [if_pos h]
 have:=List.idxOf_lt_length_of_mem h
 omega
theorem insB_mono {p inp out cells r1 r2:Int} {i:InI} (h:insB p inp out cells r1 i=true) (hr:r1≤r2):insB p inp out cells r2 i=true:=by
 unfold insB at h ⊢
 simp only [inB] at h ⊢
 repeat' split
 all_goals
  simp_all
  try omega
structure CmI (p inp:Int) (gs:List GtI) (os:List Int) (k:Nat) (s:CmS):Prop where
 rl:s.reg.length=gs.length
 ho:∀ h ∈ s.holds,h ∈ (listL gs os).take k
 rg:∀ i ∈ (listL gs os).take k,0≤s.reg.getD i.toNat (-1)∧s.reg.getD i.toNat (-1)<s.holds.length
 cl:s.code.length=k
 hl:s.holds.length≤k
 ok:∀ i ∈ s.code,insB p inp os.length (dlyL gs).length s.holds.length i=true
theorem gate_kind {p inp:Int} {n:Nat} {g:GtI} (h:gateB p inp n g=true):gatB p inp g=true:=by
 unfold gateB at h
 rw [Bool.and_eq_true] at h
 exact h.2
theorem mem_set_hold {l:List Int} {r:Nat} {i h:Int} (hm:h ∈ (hold1 l r).set r i) (hr:r≤l.length):h=i∨h ∈ l:=by
 unfold hold1 at hm
 split at hm
 ·rename_i e
  subst e
  rw [List.set_append_right _ _ (Nat.le_refl _),Nat.sub_self,List.set_cons_zero] at hm
  rcases List.mem_append.1 hm with h2|h2
  ·exact .inr h2
  ·simp at h2;exact .inl h2
 ·rcases List.mem_or_eq_of_mem_set hm with h2|h2
  ·exact .inr h2
  ·exact .inl h2
theorem cmK_succ (gs:List GtI) (os:List Int) {k:Nat} (hk:k<(listL gs os).length):cmK gs os (k+1)=cmSt gs (usesL gs os) (dlyL gs) k (cmK gs os k) (listL gs os)[k]:=by
 show cmSt gs (usesL gs os) (dlyL gs) k (cmK gs os k) ((listL gs os).getD k 0)=_
 rw [List.getD_eq_getElem?_getD,List.getElem?_eq_getElem hk];rfl
theorem cm_inv {p inp:Int} {gs:List GtI} {os:List Int} (h:CiOk p inp gs os):∀ k,k≤(listL gs os).length → CmI p inp gs os k (cmK gs os k)
 | 0,_=>⟨by simp [cmK,cmGo],by simp [cmK,cmGo],by simp,by simp [cmK,cmGo],by simp [cmK,cmGo],by simp [cmK,cmGo]⟩
 | k+1,hk=>by
  have ih:=cm_inv h k (by omega)
  have hkl:k<(listL gs os).length:=by omega
  rw [cmK_succ gs os hkl]
  have hlo:=list_ok h
  have hi:=hlo.rg _ (List.getElem_mem hkl)
  have hcl:=hlo.cl k hkl
  have hgate:=h.gates _ (gNo_mem hi.1 hi.2)
  have htk:=List.take_succ_eq_append_getElem hkl
  generalize (listL gs os)[k]=i at hi hcl hgate htk
  generalize cmK gs os k=s at ih
  have hr:=rgS_le (usesL gs os) k s.holds
  unfold cmSt
  generalize rgS (usesL gs os) k s.holds=r at hr
  obtain ⟨hr1,hr2,hr3⟩:=hold1_len s.holds r hr
  refine ⟨by rw [List.length_set];exact ih.rl,fun z hz=>?_,fun z hz=>?_,by simp [ih.cl],?_,fun x hx=>?_⟩
  ·rw [htk]
   rcases mem_set_hold hz hr with rfl|h2
   ·simp
   ·exact List.mem_append_left _ (ih.ho z h2)
  ·rw [htk] at hz
   simp only [List.length_set]
   by_cases e:i.toNat=z.toNat
   ·rw [← e,getD_set_self (by rw [ih.rl];omega)];omega
   ·rw [getD_set_ne e]
    rcases List.mem_append.1 hz with h2|h2
    ·have:=ih.rg z h2;omega
    ·simp at h2;subst h2;exact absurd rfl e
  ·simp only [List.length_set]
   have:=ih.hl
   rw [hr3]
   split <;> omega
  ·simp only [List.length_set]
   rcases List.mem_append.1 hx with h2|h2
   ·exact insB_mono (ih.ok x h2) (by omega)
   ·simp only [List.mem_singleton] at h2
    subst h2
    have hgk:=gate_kind hgate
    have hreg:=fun z hz=>ih.rg z (hcl z hz)
    have hdl:(gNo gs i).kind=5 → 0≤dix (dlyL gs) i∧dix (dlyL gs) i<(dlyL gs).length:=fun e=>dix_in (mem_dly hi.1 hi.2 e)
    unfold gatB at hgk
    unfold insOf
    generalize gNo gs i=g at hgk hreg hdl hgate
    obtain ⟨kd,ga,gb,gv⟩:=g
    simp only at hgk hreg hdl ⊢
    by_cases h1:kd=1
    ·subst h1
     simp [insB,inB,-List.getD_eq_getElem?_getD] at hgk ⊢
     omega
    by_cases h2:kd=2
    ·subst h2
     simp [insB,inB,-List.getD_eq_getElem?_getD] at hgk ⊢
     omega
    by_cases h3:kd=3
    ·subst h3
     have ra:=hreg ga (by simp [ndsG,cmbB,opsG])
     have rb:=hreg gb (by simp [ndsG,cmbB,opsG])
     simp [insB,inB,-List.getD_eq_getElem?_getD] at hgk ⊢
     omega
    by_cases h4:kd=4
    ·subst h4
     have ra:=hreg ga (by simp [ndsG,cmbB,opsG])
     simp [insB,inB,-List.getD_eq_getElem?_getD] at hgk ⊢
     omega
    by_cases h5:kd=5
    ·subst h5
     have hd:=hdl rfl
     simp [insB,inB,-List.getD_eq_getElem?_getD] at hgk ⊢
     omega
    simp [h1,h2,h3,h4,h5] at hgk
def heldL (holds:List Int):List Int:=holds ++ List.replicate (16 - holds.length) (-1)
theorem heldL_len {holds:List Int} (h:holds.length≤16):(heldL holds).length=16:=by simp [heldL];omega
def regP (last:List Int) (t:Nat) (g:Int):Bool:=decide (g<0) || decide (last.getD g.toNat 0≤(t:Int))
theorem heldL_set {holds:List Int} {r:Nat} {i:Int} (hr:r≤holds.length) (h16:r<16) (hl:holds.length≤16):(heldL holds).set r i=heldL ((hold1 holds r).set r i):=by
 unfold heldL hold1
 by_cases e:r=holds.length
 ·subst e
  rw [if_pos rfl,List.set_append_right _ _ (Nat.le_refl _),Nat.sub_self,List.set_append_right _ _ (Nat.le_refl _),Nat.sub_self]
  obtain ⟨m,hm⟩:∃ m,16 - holds.length=m+1:=⟨16 - holds.length - 1,by omega⟩
  rw [hm,List.replicate_succ,List.set_cons_zero,List.set_cons_zero,List.append_assoc]
  simp only [List.length_append,List.length_cons,List.length_nil]
  rw [show 16 - (holds.length+(0+1))=m by omega]
  rfl
 ·rw [if_neg e,List.set_append_left _ _ (by omega),List.length_set]
theorem reg_find {U:List (List Int)} {n:Nat} {holds:List Int} {t:Nat} (hU:∀ u ∈ U,∀ a ∈ u,(0:Int)≤a) (ht:t<U.length) (hh:∀ h ∈ holds,0≤h∧h<n) (hl:holds.length≤16) :
  fiV (regP (luK U n U.length) t) (heldL holds)=if rgS U t holds<16 then (rgS U t holds:Int) else -1:=by
 have hp:∀ j,∀ hj:j<holds.length,regP (luK U n U.length) t holds[j]=freeB U t holds[j]:=fun j hj=>by
  obtain ⟨h0,h1⟩:=hh _ (List.getElem_mem hj)
  obtain ⟨m,hm⟩:∃ m:Nat,holds[j]=m:=⟨holds[j].toNat,by omega⟩
  rw [hm] at h1 ⊢
  unfold regP freeB
  have:=last_later U n hU (g:=m) (by omega) ht
  have e2:(luK U n U.length).getD m 0=(luK U n U.length).getD m (-1):=by
   rw [List.getD_eq_getElem?_getD,List.getD_eq_getElem?_getD,List.getElem?_eq_getElem (by rw [luK_len];omega)];rfl
  rw [Int.toNat_natCast,e2,this,decide_eq_false (by omega:¬ (m:Int)<0),decide_eq_true (by omega:(0:Int)≤m)]
  simp
 have hbef:∀ j,∀ hj:j<holds.length,j<rgS U t holds → regP (luK U n U.length) t holds[j]=false:=fun j hj hlt=>by
  rw [hp j hj]
  have:=List.not_of_lt_findIdx hlt
  simpa using this
 have hr:=rgS_le U t holds
 by_cases e:rgS U t holds=holds.length
 ·by_cases e16:holds.length=16
  ·rw [if_neg (by omega)]
   refine fiV_miss (fun j hj=>?_)
   have hj2:j<holds.length:=by rw [heldL_len hl] at hj;omega
   simp only [heldL]
   rw [List.getElem_append_left hj2]
   exact hbef j hj2 (by omega)
  ·rw [if_pos (by omega)]
   refine fiV_hit (by rw [heldL_len hl];omega) (fun j hj hlt=>?_) ?_
   ·have hj2:j<holds.length:=by omega
    simp only [heldL]
    rw [List.getElem_append_left hj2]
    exact hbef j hj2 hlt
   ·simp only [heldL]
    rw [List.getElem_append_right (by omega),List.getElem_replicate]
    rfl
 ·rw [if_pos (by omega)]
  refine fiV_hit (by rw [heldL_len hl];omega) (fun j hj hlt=>?_) ?_
  ·have hj2:j<holds.length:=by omega
   simp only [heldL]
   rw [List.getElem_append_left hj2]
   exact hbef j hj2 hlt
  ·have hlt:rgS U t holds<holds.length:=by omega
   simp only [heldL]
   rw [List.getElem_append_left hlt,hp _ hlt]
   exact List.findIdx_getElem (w:=hlt)
theorem uses_nn {p inp:Int} {gs:List GtI} {os:List Int} (h:CiOk p inp gs os):∀ u ∈ usesL gs os,∀ a ∈ u,0≤a∧a<gs.length:=by
 intro u hu a ha
 unfold usesL at hu
 rcases List.mem_append.1 hu with h1|h1
 ·obtain ⟨i,hi,rfl⟩:=List.mem_map.1 h1
  have hr:=(list_ok h).rg i hi
  unfold ndsG at ha
  split at ha
  ·exact ci_ops h hr.1 hr.2 a ha
  ·simp at ha
 ·rcases List.mem_append.1 h1 with h2|h2
  ·obtain ⟨d,hd,rfl⟩:=List.mem_map.1 h2
   simp at ha;subst ha
   exact ci_dly h hd
  ·obtain ⟨k,hk,rfl⟩:=List.mem_map.1 h2
   simp at ha;subst ha
   exact h.orange _ hk
theorem uses_len (gs:List GtI) (os:List Int):(usesL gs os).length=(listL gs os).length+((dlyL gs).length+os.length):=by simp [usesL]
end Go.Proofs.YtbljmfcifljkaaaGreatDoor
