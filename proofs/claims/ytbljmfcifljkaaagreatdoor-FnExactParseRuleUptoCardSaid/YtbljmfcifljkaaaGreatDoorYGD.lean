/-
  The graph of a term, plain: both sides' ways agree. Own work.
-/
import Derived.Test.YtbljmfcifljkaaaGreatDoorYGB
import Derived.Test.YtbljmfcifljkaaaGreatDoorYSX
import Derived.Test.YtbljmfcifljkaaaGreatDoorYAX
import Derived.Test.YtbljmfcifljkaaaGreatDoorYAA
set_option linter.all false
set_option maxRecDepth 100000
set_option maxHeartbeats 8000000
namespace Go.Proofs.YtbljmfcifljkaaaGreatDoor
open Go.RowKit
def idI (n:Nat):GrI:=⟨n,[],upL n,upL n⟩
def arI (k v:Int) (a b:Nat):GrI:=⟨((a+b:Nat):Int),[⟨k,v,upL a,fromL a b⟩],upL a,fromL a b⟩
def lfI (n:Nd):GrI :=
 if n.kind=1 then idI n.value.toNat
 else if n.kind=2 then ⟨2,[],[0,1],[1,0]⟩
 else arI n.kind n.value (kindW n.kind).1.toNat (kindW n.kind).2.toNat
def opI (a b:GrI):GrI:=⟨((a.wires.toNat+b.wires.toNat:Nat):Int),a.edges ++ b.edges.map (mvE (fromL a.wires.toNat b.wires.toNat)),a.ins,pickL (fromL a.wires.toNat b.wires.toNat) b.outs⟩
def prsI (a b:GrI):List (Nat × Nat):=(a.outs.zip b.ins).map fun p=>(p.1.toNat,p.2.toNat+a.wires.toNat)
def sqI (a b:GrI):GrI:=glI (opI a b) (a.wires.toNat+b.wires.toNat) (prsI a b)
def prI (a b:GrI):GrI:=bsI a.wires.toNat b.wires.toNat a.edges b.edges a.ins b.ins a.outs b.outs
theorem sq_ins (a b:GrI):(sqI a b).ins.length=a.ins.length:=by simp [sqI,glI,mvI,opI,pickL_len]
theorem sq_outs (a b:GrI):(sqI a b).outs.length=b.outs.length:=by simp [sqI,glI,mvI,opI,pickL_len]
theorem pr_ins (a b:GrI):(prI a b).ins.length=a.ins.length+b.ins.length:=by simp [prI,bsI,pickL_len]
theorem pr_outs (a b:GrI):(prI a b).outs.length=a.outs.length+b.outs.length:=by simp [prI,bsI,pickL_len]
theorem id_ok:∀ n:Nat,n≤12 → grB (idI n)=true:=by decide +kernel
theorem sw_ok:grB ⟨2,[],[0,1],[1,0]⟩=true:=by decide +kernel
theorem ar_ok (k v:Int) (h0:3≤k) (h1:k≤14) (hv:genValB k v=true):grB (arI k v (kindW k).1.toNat (kindW k).2.toNat)=true:=by
 have hk:k=3∨k=4∨k=5∨k=6∨k=7∨k=8∨k=9∨k=10∨k=11∨k=12∨k=13∨k=14:=by omega
 have key:∀ k':Int,(k'=k) → (∀ x:Bool,x=true → ((x && true) && true)=true) → grB (arI k' v (kindW k').1.toNat (kindW k').2.toNat)=true:=by
  intro k' e hx
  subst e
  have e1:edB ⟨k',v,upL (kindW k').1.toNat,fromL (kindW k').1.toNat (kindW k').2.toNat⟩=true:=by
   unfold edB
   rw [hv]
   rcases hk with rfl|rfl|rfl|rfl|rfl|rfl|rfl|rfl|rfl|rfl|rfl|rfl <;> rfl
  have e2:gfitB (arI k' v (kindW k').1.toNat (kindW k').2.toNat)=true:=by
   rcases hk with rfl|rfl|rfl|rfl|rfl|rfl|rfl|rfl|rfl|rfl|rfl|rfl <;> rfl
  have e3:(inG (arI k' v (kindW k').1.toNat (kindW k').2.toNat).wires (arI k' v (kindW k').1.toNat (kindW k').2.toNat).places && allG (arI k' v (kindW k').1.toNat (kindW k').2.toNat))=true:=by
   rcases hk with rfl|rfl|rfl|rfl|rfl|rfl|rfl|rfl|rfl|rfl|rfl|rfl <;> rfl
  unfold grB
  rw [e2,e3]
  show (true && ((edB _ && true) && true))=true
  rw [e1];rfl
 exact key k rfl (fun x h=>by rw [h];rfl)
theorem lf_ok {n:Nd} (h:leafB n=true):grB (lfI n)=true∧((lfI n).ins.length:Int)=(arityW n).1∧((lfI n).outs.length:Int)=(arityW n).2:=by
 obtain ⟨k,v,nm⟩:=n
 have h':=h
 unfold leafB at h
 simp only [Bool.and_eq_true,decide_eq_true_eq] at h
 obtain ⟨⟨⟨h0,h1⟩,h2⟩,h3⟩:=h
 have hnm:nm=⟨#[]⟩:=h0
 unfold lfI arityW
 dsimp only
 by_cases hk:k=1
 ·subst hk
  simp only [if_true,Bool.and_eq_true,decide_eq_true_eq] at h3
  obtain ⟨m,rfl⟩:∃ m:Nat,v=m:=⟨v.toNat,by omega⟩
  simp only [if_true]
  refine ⟨id_ok _ (by omega),?_,?_⟩ <;> simp [idI,upL_len]
 ·rw [if_neg hk,if_neg hk]
  by_cases hk2:k=2
  ·subst hk2
   rw [if_pos rfl]
   exact ⟨sw_ok,rfl,rfl⟩
  ·rw [if_neg hk2]
   have hv:genValB k v=true:=by
    rw [← leaf_edB (e:=⟨k,v,[],[]⟩) (by unfold inB;simp;omega),← hnm];exact h'
   refine ⟨ar_ok k v (by omega) h2 hv,?_,?_⟩
   ·simp only [arI,upL_len]
    have:0≤(kindW k).1:=by
     unfold kindW
     repeat' split
     all_goals simp
    omega
   ·simp only [arI,fromL_len]
    have:0≤(kindW k).2:=by
     unfold kindW
     repeat' split
     all_goals simp
    omega
structure MdG (g:GrI) (t:W2):Prop where
 ok:grB g=true
 a:(g.ins.length:Int)=t.1
 b:(g.outs.length:Int)=t.2
theorem grB_parts {g:GrI} (h:grB g=true):(∃ n:Nat,g.wires=n∧n≤100)∧g.edges.length≤60∧g.ins.length≤12∧g.outs.length≤12∧(∀ e ∈ g.edges,e.ins.length≤2∧e.outs.length≤2)∧∀ k ∈ g.places,0≤k∧k<g.wires:=by
 unfold grB gfitB at h
 simp only [Bool.and_eq_true,decide_eq_true_eq] at h
 obtain ⟨⟨h1,h2,h3,h4⟩,h5,h6,-⟩:=h
 unfold inB at h1
 simp only [Bool.and_eq_true,decide_eq_true_eq] at h1
 exact ⟨⟨g.wires.toNat,by omega,by omega⟩,h2,h3,h4,fun e he=>edB_len (List.all_eq_true.1 h5 e he),(inG_iff _ _).1 h6⟩
theorem grB_w {g:GrI} {n:Nat} (h:grB g=true) (hn:g.wires=n):GrW g n:=by
 obtain ⟨⟨m,h0,h1⟩,h2,h3,h4,h5,h6⟩:=grB_parts h
 refine ⟨by omega,⟨by omega,fun e he=>by have:=h5 e he;omega,by omega,by omega⟩,fun k hk=>by rw [← hn];exact h6 k hk,lens_of h2 h3 h4 h5⟩
theorem pick_from {a b:Nat} {l:List Int} (h:∀ k ∈ l,0≤k∧k<(b:Int)):pickL (fromL a b) l=l.map (fun k:Int=>k+(a:Int)):=by
 unfold pickL
 refine List.map_congr_left fun k hk=>?_
 obtain ⟨h1,h2⟩:=h k hk
 obtain ⟨m,rfl⟩:∃ m:Nat,k=m:=⟨k.toNat,by omega⟩
 have hm:m<(fromL a b).length:=by rw [fromL_len];omega
 rw [Int.toNat_natCast,List.getD_eq_getElem?_getD,List.getElem?_eq_getElem hm,Option.getD_some,fromL_get]
 omega
theorem mem_pl {g:GrI} {k:Int}:k ∈ g.places ↔ k ∈ g.ins∨k ∈ g.outs∨∃ e ∈ g.edges,k ∈ e.ins∨k ∈ e.outs:=by
 unfold GrI.places
 simp only [List.mem_append,List.mem_flatMap]
theorem mv_in {a b:Nat} {l:List Int} (h:∀ k ∈ l,0≤k∧k<(b:Int)):∀ k ∈ pickL (fromL a b) l,0≤k∧k<((a+b:Nat):Int):=by
 rw [pick_from h]
 intro k hk
 obtain ⟨j,hj,rfl⟩:=List.mem_map.1 hk
 have:=h j hj
 omega
theorem op_w {a b:GrI} (ha:grB a=true) (hb:grB b=true):GrW (opI a b) (a.wires.toNat+b.wires.toNat):=by
 obtain ⟨⟨m,h0,h1⟩,h2,h3,h4,h5,h6⟩:=grB_parts ha
 obtain ⟨⟨n,k0,k1⟩,k2,k3,k4,k5,k6⟩:=grB_parts hb
 have em:a.wires.toNat=m:=by omega
 have en:b.wires.toNat=n:=by omega
 rw [em,en]
 have hed:∀ e ∈ (opI a b).edges,e.ins.length≤2∧e.outs.length≤2:=by
  intro e he
  rcases List.mem_append.1 he with he|he
  ·exact h5 e he
  ·obtain ⟨x,hx,rfl⟩:=List.mem_map.1 he
   simp only [mvE,pickL_len]
   exact k5 x hx
 have hel:(opI a b).edges.length≤120:=by simp only [opI,List.length_append,List.length_map];omega
 have hol:(opI a b).outs.length≤12:=by simp only [opI,pickL_len];omega
 refine ⟨by omega,⟨by omega,fun e he=>by have:=hed e he;omega,by show a.ins.length≤1000;omega,by omega⟩,?_,?_⟩
 ·intro k hk
  have hA:∀ k,k ∈ a.places → 0≤k∧k<((m+n:Nat):Int):=fun k hk=>by have:=h6 k hk;omega
  have hB:∀ (l:List Int),(∀ k ∈ l,k ∈ b.places) → ∀ k ∈ pickL (fromL m n) l,0≤k∧k<((m+n:Nat):Int):=fun l hl=>mv_in fun k hk=>by have:=k6 k (hl k hk);omega
  rcases mem_pl.1 hk with hk|hk|⟨e,he,hk⟩
  ·exact hA k (mem_pl.2 (.inl hk))
  ·simp only [opI,em,en] at hk
   exact hB _ (fun k hk=>mem_pl.2 (.inr (.inl hk))) k hk
  ·simp only [opI,em,en] at he
   rcases List.mem_append.1 he with he|he
   ·exact hA k (mem_pl.2 (.inr (.inr ⟨e,he,hk⟩)))
   ·obtain ⟨x,hx,rfl⟩:=List.mem_map.1 he
    simp only [mvE] at hk
    rcases hk with hk|hk
    ·exact hB _ (fun k hk=>mem_pl.2 (.inr (.inr ⟨x,hx,.inl hk⟩))) k hk
    ·exact hB _ (fun k hk=>mem_pl.2 (.inr (.inr ⟨x,hx,.inr hk⟩))) k hk
 ·unfold GrI.origs GrI.dests
  have a1:=flat_le2 EdI.outs (opI a b).edges (fun e h=>(hed e h).2)
  have b1:=flat_le2 EdI.ins (opI a b).edges (fun e h=>(hed e h).1)
  have c1:(opI a b).ins.length≤12:=h3
  rw [List.length_append,List.length_append]
  omega
theorem zip_fst {α β:Type}:∀ (l:List α) (m:List β),l.length=m.length → (l.zip m).map Prod.fst=l
 | [],_,_=>by simp
 | a :: l,[],h=>by simp at h
 | a :: l,b :: m,h=>by simp only [List.zip_cons_cons,List.map_cons,zip_fst l m (by simpa using h)]
theorem zip_snd {α β:Type}:∀ (l:List α) (m:List β),l.length=m.length → (l.zip m).map Prod.snd=m
 | [],m,h=>by cases m with
  | nil=>rfl
  | cons=>simp at h
 | a :: l,[],h=>by simp at h
 | a :: l,b :: m,h=>by simp only [List.zip_cons_cons,List.map_cons,zip_snd l m (by simpa using h)]
theorem prs_fst {a b:GrI} (ha:grB a=true) (h:a.outs.length=b.ins.length):nI ((prsI a b).map Prod.fst)=a.outs:=by
 obtain ⟨-,-,-,-,-,h6⟩:=grB_parts ha
 unfold prsI nI
 rw [List.map_map,List.map_map]
 have e:(a.outs.zip b.ins).map (((fun n:Nat=>(n:Int)) ∘ Prod.fst) ∘ fun p:Int × Int=>(p.1.toNat,p.2.toNat+a.wires.toNat))=((a.outs.zip b.ins).map Prod.fst).map fun k=>((k.toNat:Nat):Int):=by rw [List.map_map];rfl
 rw [e,zip_fst _ _ h]
 conv=>rhs;rw [← List.map_id a.outs]
 refine List.map_congr_left fun k hk=>?_
 have:=h6 k (mem_pl.2 (.inr (.inl hk)))
 simp only [id];omega
theorem prs_snd {a b:GrI} (ha:grB a=true) (hb:grB b=true) (h:a.outs.length=b.ins.length):nI ((prsI a b).map Prod.snd)=pickL (fromL a.wires.toNat b.wires.toNat) b.ins:=by
 obtain ⟨⟨n,k0,k1⟩,k2,k3,k4,k5,k6⟩:=grB_parts hb
 rw [pick_from fun k hk=>by have:=k6 k (mem_pl.2 (.inl hk));omega]
 unfold prsI nI
 rw [List.map_map,List.map_map]
 have e:(a.outs.zip b.ins).map (((fun n:Nat=>(n:Int)) ∘ Prod.snd) ∘ fun p:Int × Int=>(p.1.toNat,p.2.toNat+a.wires.toNat))=((a.outs.zip b.ins).map Prod.snd).map fun k=>((k.toNat+a.wires.toNat:Nat):Int):=by rw [List.map_map];rfl
 rw [e,zip_snd _ _ h]
 refine List.map_congr_left fun k hk=>?_
 have:=k6 k (mem_pl.2 (.inl hk))
 omega
theorem prs_lt {a b:GrI} (ha:grB a=true) (hb:grB b=true):∀ p ∈ prsI a b,p.1<a.wires.toNat+b.wires.toNat∧p.2<a.wires.toNat+b.wires.toNat:=by
 obtain ⟨-,-,-,-,-,h6⟩:=grB_parts ha
 obtain ⟨-,-,-,-,-,k6⟩:=grB_parts hb
 intro p hp
 unfold prsI at hp
 obtain ⟨q,hq,rfl⟩:=List.mem_map.1 hp
 have h1:=h6 q.1 (mem_pl.2 (.inr (.inl (List.of_mem_zip hq).1)))
 have h2:=k6 q.2 (mem_pl.2 (.inl (List.of_mem_zip hq).2))
 simp only
 omega
theorem prs_len {a b:GrI} (ha:grB a=true):(prsI a b).length≤12:=by
 obtain ⟨-,-,-,h4,-⟩:=grB_parts ha
 unfold prsI
 rw [List.length_map,List.length_zip]
 omega
def grGo:List Nd → List GrI → Option (List GrI)
 | [],st=>some st
 | n :: r,st =>
  if n.kind=15 then
   (match st with
   | b :: a :: st'=>if grB (sqI a b)=true then grGo r (sqI a b :: st') else none
   | _=>none)
  else if n.kind=16 then
   (match st with
   | b :: a :: st'=>if grB (prI a b)=true then grGo r (prI a b :: st') else none
   | _=>none)
  else if grB (lfI n)=true then grGo r (lfI n :: st) else none
theorem grGo_seq {n:Nd} {r:List Nd} {a b:GrI} {st:List GrI} (h:n.kind=15):grGo (n :: r) (b :: a :: st)=if grB (sqI a b)=true then grGo r (sqI a b :: st) else none:=by
 conv=>lhs;unfold grGo
 rw [if_pos h]
theorem grGo_par {n:Nd} {r:List Nd} {a b:GrI} {st:List GrI} (h:n.kind=16):grGo (n :: r) (b :: a :: st)=if grB (prI a b)=true then grGo r (prI a b :: st) else none:=by
 conv=>lhs;unfold grGo
 rw [if_neg (by omega),if_pos h]
theorem grGo_leaf {n:Nd} {r:List Nd} {st:List GrI} (h:¬ (n.kind=15∨n.kind=16)):grGo (n :: r) st=if grB (lfI n)=true then grGo r (lfI n :: st) else none:=by
 conv=>lhs;unfold grGo
 rw [if_neg (by omega),if_neg (by omega)]
def madeT:Tr → Option GrI
 | .leaf n=>some (lfI n)
 | .seq a b =>
  match madeT a,madeT b with
  | some x,some y=>if grB (sqI x y)=true then some (sqI x y) else none
  | _,_=>none
 | .par a b =>
  match madeT a,madeT b with
  | some x,some y=>if grB (prI x y)=true then some (prI x y) else none
  | _,_=>none
theorem leafIn_nil {n:Nd} {x:W2} (h:leafIn [] n=some x):leafB n=true∧arityW n=x:=by
 unfold leafIn at h
 split at h
 ·simp [findD] at h
 ·split at h
  ·rename_i hb
   exact ⟨hb,by simpa using h⟩
  ·cases h
theorem madeT_ok:∀ (t:Tr) (x:W2),t.ty (leafIn [])=some x → ∀ g,madeT t=some g → MdG g x
 | .leaf n,x,hx,g,hg=>by
  simp only [Tr.ty] at hx
  obtain ⟨h1,rfl⟩:=leafIn_nil hx
  simp only [madeT,Option.some.injEq] at hg
  subst hg
  obtain ⟨h2,h3,h4⟩:=lf_ok h1
  exact ⟨h2,h3,h4⟩
 | .seq a b,x,hx,g,hg=>by
  simp only [Tr.ty] at hx
  split at hx
  ·rename_i p q h1 h2
   simp only [madeT] at hg
   split at hg
   ·rename_i ga gb e1 e2
    have ma:=madeT_ok a p h1 ga e1
    have mb:=madeT_ok b q h2 gb e2
    split at hg
    ·rename_i hB
     simp only [Option.some.injEq] at hg
     subst hg
     unfold joinW at hx
     rw [if_pos rfl] at hx
     split at hx
     ·simp only [Option.some.injEq] at hx
      subst hx
      exact ⟨hB,by rw [sq_ins];exact ma.a,by rw [sq_outs];exact mb.b⟩
     ·cases hx
    ·cases hg
   ·cases hg
  ·cases hx
 | .par a b,x,hx,g,hg=>by
  simp only [Tr.ty] at hx
  split at hx
  ·rename_i p q h1 h2
   simp only [madeT] at hg
   split at hg
   ·rename_i ga gb e1 e2
    have ma:=madeT_ok a p h1 ga e1
    have mb:=madeT_ok b q h2 gb e2
    split at hg
    ·rename_i hB
     simp only [Option.some.injEq] at hg
     subst hg
     simp only [joinW] at hx
     rw [if_neg (by decide)] at hx
     split at hx
     ·simp only [Option.some.injEq] at hx
      subst hx
      refine ⟨hB,?_,?_⟩
      ·rw [pr_ins];have:=ma.a;have:=mb.a;simp only;omega
      ·rw [pr_outs];have:=ma.b;have:=mb.b;simp only;omega
     ·cases hx
    ·cases hg
   ·cases hg
  ·cases hx
theorem grGo_tree:∀ (t:Tr) (x:W2),t.LK → t.ty (leafIn [])=some x → ∀ (r:List Nd) (st:List GrI),grGo (t.nodes ++ r) st=match madeT t with|some g=>grGo r (g :: st)|none=>none
 | .leaf n,x,hl,hx,r,st=>by
  simp only [Tr.ty] at hx
  obtain ⟨h1,rfl⟩:=leafIn_nil hx
  simp only [Tr.nodes,madeT,List.cons_append,List.nil_append]
  rw [grGo_leaf hl,if_pos (lf_ok h1).1]
 | .seq a b,x,hl,hx,r,st=>by
  simp only [Tr.ty] at hx
  split at hx
  ·rename_i p q h1 h2
   simp only [Tr.nodes,madeT]
   rw [List.append_assoc,List.append_assoc,grGo_tree a p hl.1 h1]
   cases e1:madeT a with
   | none=>rfl
   | some ga =>
    simp only
    rw [grGo_tree b q hl.2 h2]
    cases e2:madeT b with
    | none=>rfl
    | some gb =>
     simp only
     rw [List.singleton_append,grGo_seq rfl]
     split <;> rfl
  ·cases hx
 | .par a b,x,hl,hx,r,st=>by
  simp only [Tr.ty] at hx
  split at hx
  ·rename_i p q h1 h2
   simp only [Tr.nodes,madeT]
   rw [List.append_assoc,List.append_assoc,grGo_tree a p hl.1 h1]
   cases e1:madeT a with
   | none=>rfl
   | some ga =>
    simp only
    rw [grGo_tree b q hl.2 h2]
    cases e2:madeT b with
    | none=>rfl
    | some gb =>
     simp only
     rw [List.singleton_append,grGo_par rfl]
     split <;> rfl
  ·cases hx
def stN:List Tr → List Nd
 | []=>[]
 | t :: r=>stN r ++ t.nodes
def TyR (leaf:Nd → Option W2):List Tr → List W2 → Prop
 | [],[]=>True
 | t :: ts,x :: xs=>(t.LK∧t.ty leaf=some x)∧TyR leaf ts xs
 | _,_=>False
theorem tree_go {leaf:Nd → Option W2}:∀ (ns:List Nd) (xs xs':List W2) (ts:List Tr),typedGo leaf ns xs=some xs' → TyR leaf ts xs → ∃ ts',TyR leaf ts' xs'∧stN ts'=stN ts ++ ns
 | [],xs,xs',ts,h,ht=>by
  simp only [typedGo,Option.some.injEq] at h
  subst h
  exact ⟨ts,ht,by simp⟩
 | n :: r,xs,xs',ts,h,ht=>by
  by_cases hk:n.kind=15∨n.kind=16
  ·unfold typedGo at h
   rw [if_pos hk] at h
   split at h
   ·rename_i hz
    split at h
    ·rename_i b a st0
     split at h
     ·rename_i x hx
      match ts,ht with
      | tb :: ta :: ts0,ht =>
       obtain ⟨⟨h1,h2⟩,⟨h3,h4⟩,h5⟩:=ht
       obtain ⟨k,v,nm⟩:=n
       simp only at hk hz hx
       obtain ⟨rfl,rfl⟩:=hz
       rcases hk with rfl|rfl
       ·obtain ⟨ts',e1,e2⟩:=tree_go r _ xs' (.seq ta tb :: ts0) h ⟨⟨⟨h3,h1⟩,by rw [Tr.ty,h4,h2];exact hx⟩,h5⟩
        exact ⟨ts',e1,by rw [e2];simp only [stN,Tr.nodes,List.append_assoc,List.singleton_append];rfl⟩
       ·obtain ⟨ts',e1,e2⟩:=tree_go r _ xs' (.par ta tb :: ts0) h ⟨⟨⟨h3,h1⟩,by rw [Tr.ty,h4,h2];exact hx⟩,h5⟩
        exact ⟨ts',e1,by rw [e2];simp only [stN,Tr.nodes,List.append_assoc,List.singleton_append];rfl⟩
     ·cases h
    ·cases h
   ·cases h
  ·unfold typedGo at h
   rw [if_neg hk] at h
   split at h
   ·rename_i x hx
    obtain ⟨ts',e1,e2⟩:=tree_go r _ xs' (.leaf n :: ts) h ⟨⟨hk,hx⟩,ht⟩
    exact ⟨ts',e1,by rw [e2];simp only [stN,Tr.nodes,List.append_assoc,List.singleton_append]⟩
   ·cases h
theorem tree_of {leaf:Nd → Option W2} {ns:List Nd} {x:W2} (h:typedL leaf ns=some x):∃ t:Tr,t.LK∧t.ty leaf=some x∧t.nodes=ns:=by
 unfold typedL at h
 split at h
 ·split at h
  ·rename_i y hy
   simp only [Option.some.injEq] at h
   subst h
   obtain ⟨ts',h1,h2⟩:=tree_go ns [] _ [] hy trivial
   match ts',h1 with
   | [t],h1=>exact ⟨t,h1.1.1,h1.1.2,by simpa [stN] using h2⟩
  ·cases h
 ·cases h
def madeB (ns:List Nd):Bool:=(grGo ns []).isSome
theorem madeB_tree {t:Tr} {x:W2} (h:t.LK) (hx:t.ty (leafIn [])=some x):madeB t.nodes=(madeT t).isSome:=by
 have:=grGo_tree t x h hx [] []
 rw [List.append_nil] at this
 unfold madeB
 rw [this]
 cases madeT t <;> rfl
end Go.Proofs.YtbljmfcifljkaaaGreatDoor
/-
  The text of a rule read, and what a rule is, plain. Own work.
-/
namespace Go.Proofs.YtbljmfcifljkaaaGreatDoor
open Go.RowKit
structure RlI where
 name:ByteArray
 left:List Nd
 right:List Nd
def pRight (s:ByteArray) (nm:ByteArray) (l:List Nd) (r:List Tk):Option RlI :=
 if isSym r 61=true then
  (match wholeL [] s.size r.tail with
  | .error _=>none
  | .ok ns=>some ⟨nm,l,ns⟩)
 else none
def pLeft (s:ByteArray) (nm:ByteArray) (r:List Tk):Option RlI :=
 match pTerm r.length r [] with
 | ⟨true,_,_⟩=>none
 | ⟨false,r2,o⟩ =>
  (match chkGo (leafIn []) o 0 [] with
  | some _=>none
  | none=>pRight s nm (o.map Prod.fst) r2)
def pRuleL (s:ByteArray):Option RlI :=
 match tokL s with
 | .error _=>none
 | .ok ts =>
  match ts with
  | []=>none
  | t :: r=>if t.kind=1∧isSym r 58=true then pLeft s t.text r.tail else none
def ruleB (r:RlI):Bool :=
 nameB r.name && (decide (typedL (leafIn []) r.left=typedL (leafIn []) r.right) && (madeB r.left && madeB r.right))
def ruleL (s:ByteArray):Option RlI:=(pRuleL s).filter ruleB
end Go.Proofs.YtbljmfcifljkaaaGreatDoor
/-
  The program's identityGraph and leafGraph. Own work.
-/
namespace Go.Proofs.YtbljmfcifljkaaaGreatDoor
open Go.RowKit
set_option maxRecDepth 100000
set_option maxHeartbeats 8000000
theorem EdsO.nil (w:World) (B:Nat):EdsO w B (.slice none 0 0) []:=(EdS.nil w B).o
theorem GrO.res {w:World} {B b:Nat} {x y z:Value} {g:GrI} (h:GrO w B x y z g) (hb:b<B) (u0 u1 u2 u3:Value) :
  GrO ((((w.setCell ⟨b,0,none⟩ u0).setCell ⟨b,1,none⟩ u1).setCell ⟨b,2,none⟩ u2).setCell ⟨b,3,none⟩ u3) B x y z g :=
 (((h.low (a:=⟨b,0,none⟩) hb _).low (a:=⟨b,1,none⟩) hb _).low (a:=⟨b,2,none⟩) hb _).low (a:=⟨b,3,none⟩) hb _
theorem below_res {w w':World} {B b:Nat} (h:Below B w w') (hb:B≤b) (u0 u1 u2 u3:Value) :
  Below B w ((((w'.setCell ⟨b,0,none⟩ u0).setCell ⟨b,1,none⟩ u1).setCell ⟨b,2,none⟩ u2).setCell ⟨b,3,none⟩ u3) :=
 (((h.setCell hb _).setCell hb _).setCell hb _).setCell hb _
theorem identityGraph_any (n:Nat) (w:World) (hn:n≤1000):Calls Tryz.prog 252 #[.int .i64 n] w (GrMk (idI n) w):=by
 have hA:=alloc_below w (.cells #[.int .i64 0,.slice none 0 0,.slice none 0 0,.slice none 0 0] 53)
 have kR:=Bk.new w 53 #[.int .i64 0,.slice none 0 0,.slice none 0 0,.slice none 0 0]
 go_enter Tryz.func252,Tryz.ntmps252
 go_wp2_with fail
 generalize (w.alloc (.cells #[.int .i64 0,.slice none 0 0,.slice none 0 0,.slice none 0 0] 53))=u0 at *
 have hlow:=kR.lt
 refine (upTo_any n u0 (by omega)).mono ?_
 rintro e u1 ⟨v1,rfl,hr1,hb1⟩
 obtain ⟨a1,c1,rfl⟩:=hr1.slice
 rw [upL_len] at *
 go_wp2_with fail
 refine (upTo_any n u1 (by omega)).mono ?_
 rintro e u2 ⟨v2,rfl,hr2,hb2⟩
 obtain ⟨a2,c2,rfl⟩:=hr2.slice
 rw [upL_len] at *
 have hz1:=hb1.size
 have kR2:=(kR.keep hb1).keep hb2
 obtain ⟨iR,fR,zR⟩:=kR2.cell
 have hB2:=hA.trans ((hb1.trans (hb2.mono hz1)).mono hA.size)
 have HG:=Lib.hid (show GrO u2 u0.heap.size (.slice none 0 0) (.slice a1 n c1) (.slice a2 n c2) (idI n) from ⟨EdsO.nil _ _,hr1.keep hb2,hr2.mono hz1⟩)
 have HB:=Lib.hid hB2
 clear hr1 hr2 hb1 hb2 hB2 kR kR2
 go_wp2
 refine bodyPost_ret (v:=.agg #[.int .i64 n,.slice none 0 0,.slice a1 n c1,.slice a2 n c2]) (by simp [results,Tryz.results252,go_sem,iR]) rfl ⟨_,_,_,rfl,?_,?_⟩
 ·exact (HG.out.res hlow _ _ _ _).mono hA.size
 ·exact below_res HB.out (Nat.le_refl _) _ _ _ _
theorem leaf_id_any (k v:Int) (nm:ByteArray) (w:World) (hk:k=1) (h0:0≤v) (h1:v≤12):Calls Tryz.prog 188 #[.agg #[.int .i64 k,.int .i64 v,.string nm]] w (GrMk (idI v.toNat) w):=by
 subst hk
 obtain ⟨n,rfl⟩:∃ n:Nat,v=n:=⟨v.toNat,by omega⟩
 have hA1:=alloc_below w (.cells #[.int .i64 1,.int .i64 n,.string nm] 144)
 have hA2:=alloc_below (w.alloc (.cells #[.int .i64 1,.int .i64 n,.string nm] 144)) (.cells #[.int .i64 0,.slice none 0 0,.slice none 0 0,.slice none 0 0] 53)
 have hA:=hA1.trans (hA2.mono hA1.size)
 have kR:=Bk.new (w.alloc (.cells #[.int .i64 1,.int .i64 n,.string nm] 144)) 53 #[.int .i64 0,.slice none 0 0,.slice none 0 0,.slice none 0 0]
 simp only [World.size_alloc] at kR
 have hn:n≤12:=by omega
 rw [Int.toNat_natCast]
 go_enter Tryz.func188,Tryz.ntmps188
 go_wp2_with fail
 generalize ((w.alloc (.cells #[.int .i64 1,.int .i64 n,.string nm] 144)).alloc (.cells #[.int .i64 0,.slice none 0 0,.slice none 0 0,.slice none 0 0] 53))=u0 at *
 have hlow:=kR.lt
 refine (identityGraph_any n u0 (by omega)).mono ?_
 intro e u1 hq
 obtain ⟨x1,y1,x2,y2,x3,y3,rfl,hg,hb⟩:=hq.q
 have kR2:=kR.keep hb
 obtain ⟨iR,fR,zR⟩:=kR2.cell
 have HG:=Lib.hid hg
 have HB:=Lib.hid (hA.trans (hb.mono hA.size))
 clear hg hb kR kR2 hq
 generalize hGn:idI n=G at *
 obtain ⟨gw,ge,gi,gq⟩:=G
 clear hGn
 dsimp only
 go_wp2
 refine bodyPost_ret (v:=.agg #[.int .i64 gw,.slice x1 ge.length y1,.slice x2 gi.length y2,.slice x3 gq.length y3]) (by simp [results,Tryz.results188,go_sem,iR]) rfl ⟨_,_,_,rfl,?_,?_⟩
 ·exact (HG.out.res hlow _ _ _ _).mono hA.size
 ·exact below_res HB.out (by omega) _ _ _ _
theorem row_two (w:World) (B:Nat) (x y:Int) (hB:B≤w.heap.size):Rw (w.alloc (.cells #[.int .i64 x,.int .i64 y] 3)) B (.slice (some ⟨w.heap.size,0,none⟩) 2 2) [x,y] :=
 ⟨rfl,.inr ⟨w.heap.size,2,#[.int .i64 x,.int .i64 y],rfl,hB,Bk.new w _ _,Nat.le_refl _,by unfold maxLen;omega,rfl,rfl⟩⟩
theorem leaf_swap_any (k v:Int) (nm:ByteArray) (w:World) (hk:k=2):Calls Tryz.prog 188 #[.agg #[.int .i64 k,.int .i64 v,.string nm]] w (GrMk ⟨2,[],[0,1],[1,0]⟩ w):=by
 subst hk
 have hA1:=alloc_below w (.cells #[.int .i64 2,.int .i64 v,.string nm] 144)
 have hA2:=alloc_below (w.alloc (.cells #[.int .i64 2,.int .i64 v,.string nm] 144)) (.cells #[.int .i64 0,.slice none 0 0,.slice none 0 0,.slice none 0 0] 53)
 have hA:=hA1.trans (hA2.mono hA1.size)
 have kR:=Bk.new (w.alloc (.cells #[.int .i64 2,.int .i64 v,.string nm] 144)) 53 #[.int .i64 0,.slice none 0 0,.slice none 0 0,.slice none 0 0]
 simp only [World.size_alloc] at kR
 have hU:∀ u:World,w.heap.size+1<u.heap.size → Rw ((u.alloc (.cells #[.int .i64 0,.int .i64 1] 3)).alloc (.cells #[.int .i64 1,.int .i64 0] 3)) (w.heap.size+1+1) (.slice (some ⟨u.heap.size,0,none⟩) 2 2) [0,1]∧Rw ((u.alloc (.cells #[.int .i64 0,.int .i64 1] 3)).alloc (.cells #[.int .i64 1,.int .i64 0] 3)) (w.heap.size+1+1) (.slice (some ⟨u.heap.size+1,0,none⟩) 2 2) [1,0]:=fun u hu=>by
  have h1:=row_two u (w.heap.size+1+1) 0 1 (by omega)
  have h2:=row_two (u.alloc (.cells #[.int .i64 0,.int .i64 1] 3)) (w.heap.size+1+1) 1 0 (by simp;omega)
  rw [World.size_alloc] at h2
  exact ⟨h1.keep (alloc_below _ _),h2⟩
 have HU:=Lib.hid hU
 clear hU
 go_enter Tryz.func188,Tryz.ntmps188
 go_wp2
 refine bodyPost_ret (v:=.agg #[.int .i64 2,.slice none 0 0,.slice (some ⟨w.heap.size+1+1,0,none⟩) 2 2,.slice (some ⟨w.heap.size+1+1+1,0,none⟩) 2 2]) (by simp [results,Tryz.results188,go_sem]) rfl ⟨_,_,_,rfl,?_,?_⟩
 ·have hh:=HU.out ((w.alloc (.cells #[.int .i64 2,.int .i64 v,.string nm] 144)).alloc (.cells #[.int .i64 2,.slice none 0 0,.slice (some ⟨w.heap.size+1+1,0,none⟩) 2 2,.slice (some ⟨w.heap.size+1+1+1,0,none⟩) 2 2] 53)) (by simp)
  simp only [World.size_alloc] at hh
  exact ⟨EdsO.nil _ _,hh.1.mono (by omega),hh.2.mono (by omega)⟩
 ·exact ((((Below.refl _ _).alloc (Nat.le_refl _) _).alloc (by simp) _).alloc (by simp;omega) _).alloc (by simp;omega) _
theorem leaf_ar_any (k v:Int) (nm:ByteArray) (w:World) (h0:3≤k) (h1:k≤14):Calls Tryz.prog 188 #[.agg #[.int .i64 k,.int .i64 v,.string nm]] w (GrMk (arI k v (kindW k).1.toNat (kindW k).2.toNat) w):=by
 have hgw:=fun u=>generatorWires_any k u h0 h1
 obtain ⟨a,b,ha,hb,hle⟩:∃ a b:Nat,kindW k=((a:Int),(b:Int))∧a+b≤4∧True:=by
  refine ⟨(kindW k).1.toNat,(kindW k).2.toNat,?_,?_,trivial⟩
  ·unfold kindW
   repeat' split
   all_goals rfl
  ·unfold kindW
   repeat' split
   all_goals decide
 rw [ha] at hgw
 rw [ha]
 simp only [Int.toNat_natCast] at hgw ⊢
 have HGW:=Lib.hid hgw
 clear hgw ha hle
 have hA1:=alloc_below w (.cells #[.int .i64 k,.int .i64 v,.string nm] 144)
 have hA2:=alloc_below (w.alloc (.cells #[.int .i64 k,.int .i64 v,.string nm] 144)) (.cells #[.int .i64 0,.slice none 0 0,.slice none 0 0,.slice none 0 0] 53)
 have hA:=hA1.trans (hA2.mono hA1.size)
 have kN:=(Bk.new w 144 #[.int .i64 k,.int .i64 v,.string nm]).keep hA2
 have kR:=Bk.new (w.alloc (.cells #[.int .i64 k,.int .i64 v,.string nm] 144)) 53 #[.int .i64 0,.slice none 0 0,.slice none 0 0,.slice none 0 0]
 simp only [World.size_alloc] at kR
 clear hA1 hA2
 have hk1:¬ k=1:=by omega
 have hk2:¬ k=2:=by omega
 go_enter Tryz.func188,Tryz.ntmps188
 go_wp2_with fail
 generalize ((w.alloc (.cells #[.int .i64 k,.int .i64 v,.string nm] 144)).alloc (.cells #[.int .i64 0,.slice none 0 0,.slice none 0 0,.slice none 0 0] 53))=u0 at *
 refine (HGW.out u0).mono ?_
 rintro e u1 ⟨rfl,hb1⟩
 go_wp2_with fail
 have hA3:=alloc_below u1 (.cells #[.int .i64 a,.int .i64 b] 169)
 have kW:=Bk.new u1 169 #[.int .i64 a,.int .i64 b]
 have kN2:=(kN.keep hb1).keep hA3
 have kR2:=(kR.keep hb1).keep hA3
 have hB2:=hA.trans ((hb1.trans (hA3.mono hb1.size)).mono hA.size)
 have HZ:=Lib.hid (And.intro kR.lt hb1.size)
 clear hb1 hA3 kN kR
 generalize (u1.alloc (.cells #[.int .i64 a,.int .i64 b] 169))=u2 at *
 generalize u1.heap.size=bW at *
 have HZ2:=Lib.hid kW.lt
 obtain ⟨iW,-,zW⟩:=kW.cell
 have c0:=iW 0
 have c1:=iW 1
 simp at c0 c1
 clear iW
 have up2:∀ {w':World},Exc NoT u2.drew w' → Below u2.heap.size u2 w':=fun h=>(Below.refl u2.heap.size u2).drew.trans (h.toBelow.mono (by simp))
 refine region_acts (C:=Exc (NoT) _) 4 [0,1,2,3,4,5,6,7,8,9] (by kernel_rfl) (by kernel_rfl) (Exc.grows _ _) (Exc.refl _ _) ?_
 iterate 2 (apply x_st rfl rfl rfl;(focus intro u hc' hf';go_simp <;> rfl);intro K hK;go_simp;apply hK;clear hK K)
 refine x_call rfl rfl rfl (Exc.grows _ _) (Exc.refl _ _) 253 (fun K hK=>?_);apply Exists.intro;refine ⟨fun w' hw'=>?_,fun wa hwa hbwa=>?_⟩;(focus go_simp;rfl);refine (upTo_any a _ (by omega)).mono ?_;rintro e w3 ⟨v3,rfl,hr3,hb3⟩;refine ⟨_,rfl,hb3,fun hx=>?_⟩;go_simp;apply hK;clear hK K
 iterate 4 (apply x_st rfl rfl rfl;(focus intro u hc' hf';go_simp <;> rfl);intro K hK;go_simp;apply hK;clear hK K)
 refine x_call rfl rfl rfl (Exc.grows _ _) (hx) 249 (fun K hK=>?_);apply Exists.intro;refine ⟨fun w' hw'=>?_,fun wb hwb hbwb=>?_⟩;(focus go_simp;rfl);refine (from_any a b _ (by omega) (by omega)).mono ?_;rintro e w4 ⟨v4,rfl,hr4,hb4⟩;refine ⟨_,rfl,hb4,fun hx=>?_⟩;go_simp;apply hK;clear hK K
 iterate 2 (apply x_st rfl rfl rfl;(focus intro u hc' hf';go_simp <;> rfl);intro K hK;go_simp;apply hK;clear hK K)
 refine x_nil ?_
 have hB24:=up2 hx
 have hz4:=hB24.size
 have hq3:=hbwa.size
 have hq4:=hbwb.size
 simp only [World.size_drew] at hq3
 obtain ⟨a3,q3,rfl⟩:=hr3.slice
 obtain ⟨a4,q4,rfl⟩:=hr4.slice
 rw [upL_len] at *
 rw [fromL_len] at *
 have hr3':=(((hr3.keep hbwb).keep hb4).mono (B':=u2.heap.size) hq3)
 have hr4':=hr4.mono (B':=u2.heap.size) (by have:=hb3.size;omega)
 replace kW:=kW.keep hB24
 replace kN2:=kN2.keep hB24
 replace kR2:=kR2.keep hB24
 have hB4:=hB2.trans (hB24.mono hB2.size)
 have HQ:=Lib.hid (And.intro hz4 hB2.size)
 clear hr3 hr4 hb3 hb4 hwa hbwa hwb hbwb hx up2 hB24 hB2 c0 c1 zW hz4 hq3 hq4
 obtain ⟨iW,-,zW⟩:=kW.cell
 have c0:=iW 0
 have c1:=iW 1
 simp at c0 c1
 obtain ⟨iN,-,zN⟩:=kN2.cell
 have d0:=iN 0
 have d1:=iN 1
 simp at d0 d1
 clear iW iN
 have hw:IntKind.i64.wrap ((a:Int)+b)=(a:Int)+b:=IntWalk.i64_in _ (by omega)
 have hne1:¬ bW=w.heap.size+1:=by have:=HZ.out;omega
 have hne2:¬ w.heap.size=w.heap.size+1:=by omega
 go_wp2_with fail
 have up4:∀ {w':World},Exc (fun j=>j=w.heap.size+1) w4.drew w' → Exc (fun j=>j=w.heap.size+1) w4 w':=fun h=>((Exc.refl _ _).below (Below.refl _ _).drew).trans h
 refine region_acts (C:=Exc (fun j=>j=w.heap.size+1) _) 4 [0,1,2,3,4,5,6,7,8,9,10,11,13,14,15,16,12,17,18] (by kernel_rfl) (by kernel_rfl) (Exc.grows _ _) (Exc.refl _ _) ?_
 iterate 13 (apply x_sT rfl rfl rfl;(focus intro u hc' hf';(try simp only [World.size_drew] at hc' hf');go_simp <;> rfl);intro K hK;go_simp;apply hK;clear hK K)
 refine x_call rfl rfl rfl (Exc.grows _ _) (Exc.refl _ _) 247 (fun K hK=>?_);apply Exists.intro;refine ⟨fun w' hw'=>?_,fun wa hwa hbwa=>?_⟩;(focus go_simp;rfl);refine (clone_any _ _ _ ((hr3'.keep ((Below.refl _ _).drew.trans (hbwa.mono (by simp)))).at) (by rw [upL_len];omega)).mono ?_;rintro e w5 ⟨v5,rfl,hr5,hb5⟩;refine ⟨_,rfl,hb5,fun hx=>?_⟩;go_simp;apply hK;clear hK K
 obtain ⟨a5,q5,rfl⟩:=hr5.slice
 have hb45:Below w4.heap.size w4 w5:=((Below.refl w4.heap.size w4).drew.trans (hbwa.mono (by simp))).trans (hb5.mono (by have:=hbwa.size;simpa using this))
 iterate 1 (apply x_sT rfl rfl rfl;(focus intro u hc' hf';(try simp only [World.size_drew] at hc' hf');go_simp <;> rfl);intro K hK;go_simp;apply hK;clear hK K)
 refine x_call rfl rfl rfl (Exc.grows _ _) (hx) 247 (fun K hK=>?_);apply Exists.intro;refine ⟨fun w' hw'=>?_,fun wb hwb hbwb=>?_⟩;(focus go_simp;rfl);refine (clone_any _ _ _ ((hr4'.keep (hb45.trans (hbwb.mono hb45.size))).at) (by rw [fromL_len];omega)).mono ?_;rintro e w6 ⟨v6,rfl,hr6,hb6⟩;refine ⟨_,rfl,hb6,fun hx=>?_⟩;go_simp;apply hK;clear hK K
 obtain ⟨a6,q6,rfl⟩:=hr6.slice
 rw [upL_len] at *
 rw [fromL_len] at *
 refine x_make rfl rfl rfl (Exc.grows _ _) (hx) (fun b=>.slice (some ⟨b,0,none⟩) 1 1) (fun K hK=>?_)
 apply Exists.intro
 refine ⟨fun w' hw'=>?_,fun bb w7 hw7 hb67 hbo hNb hnb=>?_⟩
 ·obtain ⟨hc',hf'⟩:=hw'.cell
  try simp only [World.size_drew] at hc' hf'
  go_simp
  rfl
 go_simp
 refine hK _ _ _ ?_
 clear hK K
 iterate 1 (apply x_sT rfl rfl rfl;(focus intro u hc' hf';(try simp only [World.size_drew] at hc' hf');go_simp <;> rfl);intro K hK;go_simp;apply hK;clear hK K)
 refine x_do rfl rfl rfl (Exc.grows _ _) hw7 (fun K hK=>?_)
 intro w8 hw8 hb78
 have hs5:=hb45.size
 have hsb:=hbwb.size
 have hs6:=hb6.size
 have hs7:=hb67.size
 have hb46:Below w4.heap.size w4 w6:=(hb45.trans (hbwb.mono hs5)).trans (hb6.mono (by omega))
 have hb47:=hb46.trans (hb67.mono hb46.size)
 have hb48:=hb47.trans (hb78.mono hb47.size)
 have kR8:=kR2.keep hb48
 have hr5':=(((hr5.keep hbwb).keep hb6).keep hb67).keep hb78
 have hr6':=(hr6.keep hb67).keep hb78
 have hr3'':=hr3'.keep hb48
 have hr4'':=hr4'.keep hb48
 have hbo8:w8.heap[bb]?=some (.cells #[.int .i64 k,.int .i64 v,.slice a3 a q3,.slice a4 b q4] 189):=(hb78.block bb (made_cell hbo).2.2).trans hbo
 obtain ⟨m0,m1,m2⟩:=kR8.cell
 have HED:=Lib.hid (show EdS w8 u2.heap.size (.slice (some ⟨bb,0,none⟩) 1 1) [(⟨k,v,upL a,fromL a b⟩,.slice a3 a q3,.slice a4 b q4)] from
  ⟨⟨rfl,.inr ⟨bb,1,_,rfl,by have:=hnb;have:=HQ.out;simp only [World.size_drew] at hNb;omega,hbo8,Nat.le_refl _,by unfold maxLen;omega,rfl,rfl⟩⟩,fun y hy=>by
   obtain rfl:=List.mem_singleton.1 hy
   exact ⟨hr3'',hr4''⟩⟩)
 have hbig:w.heap.size+1<w4.heap.size:=kR2.lt
 refine ⟨(((w8.setCell ⟨w.heap.size+1,0,none⟩ (.int .i64 ((a:Int)+b))).setCell ⟨w.heap.size+1,1,none⟩ (.slice (some ⟨bb,0,none⟩) 1 1)).setCell ⟨w.heap.size+1,2,none⟩ (.slice a5 a q5)).setCell ⟨w.heap.size+1,3,none⟩ (.slice a6 b q6),?_,⟨exc_set (exc_set (exc_set (exc_set hw8 (.inr rfl) _) (.inr rfl) _) (.inr rfl) _) (.inr rfl) _,by simp,fun j hj _ _=>by
  have hj2:¬ (j=w.heap.size+1):=by intro hh;simp only [World.size_drew] at hj;omega
  rw [Below.heap_setCell _ _ _ _ (fun h=>hj2 (by simpa using h)),Below.heap_setCell _ _ _ _ (fun h=>hj2 (by simpa using h)),Below.heap_setCell _ _ _ _ (fun h=>hj2 (by simpa using h)),Below.heap_setCell _ _ _ _ (fun h=>hj2 (by simpa using h))]⟩,?_⟩
 ·go_simp
 go_simp
 refine hK _ _ _ ?_
 clear hK K
 refine x_nil ?_
 have HG:=Lib.hid (show GrO w8 u2.heap.size (.slice (some ⟨bb,0,none⟩) 1 1) (.slice a5 a q5) (.slice a6 b q6) (arI k v a b) from ⟨HED.out.o,hr5'.mono (by have:=HQ.out;have:=hbwa.size;simp only [World.size_drew] at this;omega),hr6'.mono (by have:=HQ.out;omega)⟩)
 have HB:=Lib.hid (hB4.trans (hb48.mono hB4.size))
 have hkk:=(((kR8.set 0 (.int .i64 ((a:Int)+b))).set 1 (.slice (some ⟨bb,0,none⟩) 1 1)).set 2 (.slice a5 a q5)).set 3 (.slice a6 b q6)
 have hlow:w.heap.size+1<u2.heap.size:=by have:=HZ.out;have:=HZ2.out;omega
 clear HED hr5' hr6' hr3'' hr4'' hbo8 hbo hw8 hb78 hw7 hb67 hx hwb hbwb hwa hbwa hb47 hb48 hb46 hb45 hr5 hr6 hb5 hb6 up4 kR8
 go_wp2
 obtain ⟨iR,fR,zR⟩:=hkk.cell
 refine bodyPost_ret (v:=.agg #[.int .i64 ((a:Int)+b),.slice (some ⟨bb,0,none⟩) 1 1,.slice a5 a q5,.slice a6 b q6]) (by simp [results,Tryz.results188,go_sem,iR]) rfl ⟨_,_,_,rfl,?_,?_⟩
 ·exact (HG.out.res hlow _ _ _ _).mono (by omega)
 ·exact below_res HB.out (by omega) _ _ _ _
theorem leafGraph_any (n:Nd) (w:World) (h:leafB n=true):Calls Tryz.prog 188 #[.agg #[.int .i64 n.kind,.int .i64 n.value,.string n.name]] w (GrMk (lfI n) w):=by
 unfold leafB at h
 simp only [Bool.and_eq_true,decide_eq_true_eq] at h
 obtain ⟨⟨⟨h0,h1⟩,h2⟩,h3⟩:=h
 unfold lfI
 by_cases hk:n.kind=1
 ·rw [if_pos hk]
  rw [if_pos hk] at h3
  simp only [Bool.and_eq_true,decide_eq_true_eq] at h3
  exact leaf_id_any _ _ _ w hk h3.1 h3.2
 ·rw [if_neg hk]
  by_cases hk2:n.kind=2
  ·rw [if_pos hk2]
   exact leaf_swap_any _ _ _ w hk2
  ·rw [if_neg hk2]
   exact leaf_ar_any _ _ _ w (by omega) h2
end Go.Proofs.YtbljmfcifljkaaaGreatDoor
