/-
  The tokens of a printed tree are parsed to its nodes. No program in sight. Own work.
-/
import Derived.Test.YtikgblkfmpecfaaGreatDoorKRt
set_option linter.all false
set_option maxRecDepth 100000
set_option maxHeartbeats 8000000
namespace Go.Proofs.YtikgblkfmpecfaaGreatDoor
theorem isSym_tk {t:Tk} {r:List Tk} {b:UInt8} {x:Int × ByteArray} (h:tk2 t=x):isSym (t :: r) b=(decide (x.1=3) && decide (x.2=⟨#[b]⟩)):=by
 subst h;rfl
theorem rows_stop (f:Nat) (ts:List Tk) (out:Rd) (h:isSym ts 42=false):pRows f ts out=⟨false,ts,out⟩:=by
 cases f with
 | zero=>rw [pRows.eq_def];simp only;rw [h]
 | succ f=>rw [pRows.eq_def];simp only;rw [if_neg (by rw [h];simp)]
theorem terms_stop (f:Nat) (ts:List Tk) (out:Rd) (h:isSym ts 59=false):pTerms f ts out=⟨false,ts,out⟩:=by
 cases f with
 | zero=>rw [pTerms.eq_def];simp only;rw [h]
 | succ f=>rw [pTerms.eq_def];simp only;rw [if_neg (by rw [h];simp)]
theorem row_of {f:Nat} {ts r:List Tk} {out o:Rd} (h:pPart f ts out=⟨false,r,o⟩):pRow f ts out=pRows f r o:=by rw [pRow.eq_def,h]
theorem term_of {f:Nat} {ts r:List Tk} {out o:Rd} (h:pRow f ts out=⟨false,r,o⟩):pTerm f ts out=pTerms f r o:=by rw [pTerm.eq_def,h]
theorem rows_go {f:Nat} {u:Tk} {ts r:List Tk} {out o:Rd} (hu:isSym (u :: ts) 42=true) (h:pPart f ts out=⟨false,r,o⟩):pRows (f+1) (u :: ts) out=pRows f r (o ++ [(⟨16,0,⟨#[]⟩⟩,u.pos)]):=by
 conv=>lhs;rw [pRows.eq_def]
 simp only
 rw [if_pos hu,List.tail_cons,h]
 rfl
theorem terms_go {f:Nat} {u:Tk} {ts r:List Tk} {out o:Rd} (hu:isSym (u :: ts) 59=true) (h:pRow f ts out=⟨false,r,o⟩):pTerms (f+1) (u :: ts) out=pTerms f r (o ++ [(⟨15,0,⟨#[]⟩⟩,u.pos)]):=by
 conv=>lhs;rw [pTerms.eq_def]
 simp only
 rw [if_pos hu,List.tail_cons,h]
 rfl
theorem part_par {f:Nat} {u v:Tk} {ts r:List Tk} {out o:Rd} (hu:isSym (u :: ts) 40=true) (h:pTerm f ts out=⟨false,v :: r,o⟩) (hv:isSym (v :: r) 41=true):pPart (f+1) (u :: ts) out=⟨false,r,o⟩:=by
 rw [pPart.eq_def]
 simp only
 rw [if_pos hu,List.tail_cons,h]
 simp only
 rw [if_pos hv]
 rfl
theorem map1 {ts:List Tk} {x:Int × ByteArray} (h:ts.map tk2=[x]):∃ t,ts=[t]∧t.kind=x.1∧t.text=x.2:=by
 match ts,h with
 | [t],h=>simp only [List.map_cons,List.map_nil,List.cons.injEq,and_true] at h;subst h;exact ⟨t,rfl,rfl,rfl⟩
theorem map2 {ts:List Tk} {x y:Int × ByteArray} (h:ts.map tk2=[x,y]):∃ t u,ts=[t,u]∧(t.kind=x.1∧t.text=x.2)∧u.kind=y.1∧u.text=y.2:=by
 obtain ⟨t,r,rfl,e,h'⟩:=List.map_eq_cons_iff.1 h
 obtain ⟨u,rfl,e1,e2⟩:=map1 h'
 subst e
 exact ⟨t,u,rfl,⟨rfl,rfl⟩,e1,e2⟩
theorem part_word {f:Nat} {t:Tk} {r:List Tk} {out:Rd} (hk:t.kind=1) (hn:¬ (kindOfW t.text=1∨kindOfW t.text=7∨kindOfW t.text=13)):pPart (f+1) (t :: r) out=⟨false,r,out ++ [(nodeOf t.text,t.pos)]⟩:=by
 rw [pPart.eq_def]
 simp only
 rw [if_neg (by simp [isSym,hk]),if_pos hk,if_neg hn]
theorem part_num {f:Nat} {t u:Tk} {r:List Tk} {out:Rd} (hk:t.kind=1) (hn:kindOfW t.text=1∨kindOfW t.text=7∨kindOfW t.text=13) (hu:u.kind=2):pPart (f+1) (t :: u :: r) out=⟨false,r,out ++ [(⟨kindOfW t.text,numV u.text,⟨#[]⟩⟩,t.pos)]⟩:=by
 rw [pPart.eq_def]
 simp only
 rw [if_neg (by simp [isSym,hk]),if_pos hk,if_pos hn,if_pos hu]
theorem part_leaf {n:Nd} (h:LeafGood n) {ts:List Tk} (ht:ts.map tk2=leafK n) (f:Nat) (rest:List Tk) (out:Rd):∃ o:Rd,o.map Prod.fst=[n]∧1≤ts.length∧pPart (f+1) (ts ++ rest) out=⟨false,rest,out ++ o⟩:=by
 unfold leafK at ht
 rcases h.cases with ⟨h1,h2,h3,h4⟩|⟨h1,h2,h3,h4⟩|⟨h1,h2,h3,h4⟩
 ·rw [if_pos h1] at ht
  obtain ⟨t,rfl,e1,e2⟩:=map1 ht
  simp only at e1 e2
  refine ⟨[(nodeOf t.text,t.pos)],?_,by simp,?_⟩
  ·rw [h2]
   simp only [List.map_cons,List.map_nil,nodeOf,e2,h4]
   rfl
  ·exact part_word e1 (by rw [e2,h4];decide)
 ·have hk:¬ n.kind=17:=by omega
  rw [if_neg hk,if_pos h1] at ht
  obtain ⟨t,u,rfl,⟨e1,e2⟩,e3,e4⟩:=map2 ht
  simp only at e1 e2 e3 e4
  have hw:=(word_ok (k:=n.kind) (by omega) (by omega)).2
  refine ⟨[(⟨kindOfW t.text,numV u.text,⟨#[]⟩⟩,t.pos)],?_,by simp,?_⟩
  ·simp only [List.map_cons,List.map_nil]
   rw [e2,e4,hw,(num_ok h3 h4).2,← h2]
  ·exact part_num e1 (by rw [e2,hw];exact h1) e3
 ·have hk:¬ n.kind=17:=by omega
  rw [if_neg hk,if_neg h3] at ht
  obtain ⟨t,rfl,e1,e2⟩:=map1 ht
  simp only at e1 e2
  have hw:=(word_ok (k:=n.kind) (by omega) (by omega)).2
  refine ⟨[(nodeOf t.text,t.pos)],?_,by simp,?_⟩
  ·rw [h4]
   simp only [List.map_cons,List.map_nil,nodeOf,e2,hw]
   rw [if_neg (by omega)]
  ·exact part_word e1 (by rw [e2,hw];exact h3)
def TOk (full:Bool) (t:Tr):Prop:=∀ (ts:List Tk),ts.map tk2=tkT full t → ∀ (f:Nat) (rest:List Tk) (out:Rd),ts.length≤f → isSym rest 42=false →
 ∃ (o:Rd) (k:Nat),o.map Prod.fst=t.nodes∧k+1≤ts.length∧pTerm f (ts ++ rest) out=pTerms (f - k) rest (out ++ o)
def ROk (full:Bool) (t:Tr):Prop:=∀ (ts:List Tk),ts.map tk2=tkT full t → ∀ (f:Nat) (rest:List Tk) (out:Rd),ts.length≤f →
 ∃ (o:Rd) (k:Nat),o.map Prod.fst=t.nodes∧k+1≤ts.length∧pRow f (ts ++ rest) out=pRows (f - k) rest (out ++ o)
theorem part_brk {full:Bool} {t:Tr} (hT:TOk full t) (ts:List Tk) (ht:ts.map tk2=brkK (tkT full t) true) (f:Nat) (rest:List Tk) (out:Rd) (hf:ts.length≤f) :
  ∃ o:Rd,o.map Prod.fst=t.nodes∧1≤ts.length∧pPart f (ts ++ rest) out=⟨false,rest,out ++ o⟩:=by
 unfold brkK at ht
 rw [if_pos rfl] at ht
 match ts,ht with
 | u :: ts',ht =>
  rw [List.map_cons,List.cons.injEq] at ht
  obtain ⟨hu,ht⟩:=ht
  obtain ⟨t1,t2,e,e1,e2⟩:=List.map_eq_append_iff.1 ht
  obtain ⟨v,rfl,e3,e4⟩:=map1 e2
  subst e
  simp only [List.length_cons,List.length_append,List.length_nil] at hf
  obtain ⟨g,rfl⟩:∃ g,f=g+1:=⟨f - 1,by omega⟩
  have hv:∀ r:List Tk,isSym (v :: r) 41=true:=fun r=>by simp only at e3 e4;simp [isSym,e3,e4]
  have hv2:∀ (r:List Tk) (b:UInt8),b ≠ 41 → isSym (v :: r) b=false:=fun r b hb=>by
   simp only at e3 e4
   simp only [isSym,e3,e4,Bool.and_eq_false_iff,decide_eq_false_iff_not]
   right
   intro hh
   apply hb
   have:=congrArg (fun z:ByteArray=>z.data.toList) hh
   simpa using this.symm
  obtain ⟨o,k,h1,h2,h3⟩:=hT t1 e1 g (v :: rest) out (by omega) (hv2 rest 42 (by decide))
  refine ⟨o,h1,by simp,?_⟩
  have hs:pTerm g (t1 ++ v :: rest) out=⟨false,v :: rest,out ++ o⟩:=by rw [h3,terms_stop _ _ _ (hv2 rest 59 (by decide))]
  rw [show (u :: (t1 ++ [v])) ++ rest=u :: (t1 ++ v :: rest) by simp]
  exact part_par (by rw [isSym_tk hu];decide) hs (hv rest)
theorem row_brk {full:Bool} {t:Tr} (hT:TOk full t) (c:Bool) (hR:c=false → ROk full t) (ts:List Tk) (ht:ts.map tk2=brkK (tkT full t) c) (f:Nat) (rest:List Tk) (out:Rd) (hf:ts.length≤f) :
  ∃ (o:Rd) (k:Nat),o.map Prod.fst=t.nodes∧k+1≤ts.length∧pRow f (ts ++ rest) out=pRows (f - k) rest (out ++ o):=by
 cases c with
 | false=>exact hR rfl ts ht f rest out hf
 | true =>
  obtain ⟨o,h1,h2,h3⟩:=part_brk hT ts ht f rest out hf
  exact ⟨o,0,h1,by omega,row_of h3⟩
theorem isPar_leaf {t:Tr} (h1:t.isSeq=false) (h2:t.isPar=false):∃ n,t=.leaf n:=by
 cases t with
 | leaf n=>exact ⟨n,rfl⟩
 | seq a b=>cases h1
 | par a b=>cases h2
theorem tree_ok (full:Bool):∀ (t:Tr),t.Good → TOk full t∧(t.isSeq=false → ROk full t)
 | .leaf n,h=>by
  have hR:ROk full (.leaf n):=fun ts ht f rest out hf=>by
   have hl:1≤ts.length:=by
    have:=congrArg List.length ht
    simp only [List.length_map,tkT,leafK] at this
    split at this
    ·simp at this;omega
    ·split at this <;> (simp at this;omega)
   obtain ⟨g,rfl⟩:∃ g,f=g+1:=⟨f - 1,by omega⟩
   obtain ⟨o,h1,_,h3⟩:=part_leaf h ht g rest out
   exact ⟨o,0,h1,by omega,row_of h3⟩
  refine ⟨fun ts ht f rest out hf hr=>?_,fun _=>hR⟩
  obtain ⟨o,k,h1,h2,h3⟩:=hR ts ht f rest out hf
  exact ⟨o,0,h1,by omega,term_of (by rw [h3,rows_stop _ _ _ hr])⟩
 | .par a b,h=>by
  obtain ⟨hTa,hRa⟩:=tree_ok full a h.1
  obtain ⟨hTb,hRb⟩:=tree_ok full b h.2
  have hR:ROk full (.par a b):=fun ts ht f rest out hf=>by
   rw [tkT] at ht
   obtain ⟨ta,t2,e,ea,e2⟩:=List.map_eq_append_iff.1 ht
   match t2,e2 with
   | u :: tb,e2 =>
    rw [List.map_cons,List.cons.injEq] at e2
    obtain ⟨hu,eb⟩:=e2
    subst e
    simp only [List.length_append,List.length_cons] at hf
    obtain ⟨oa,k,h1,h2,h3⟩:=row_brk hTa _ (fun hc=>hRa (by simp only [Bool.or_eq_false_iff] at hc;exact hc.1)) ta ea f (u :: (tb ++ rest)) out (by omega)
    obtain ⟨g,hg⟩:∃ g,f - k=g+1:=⟨f - k - 1,by omega⟩
    have hpb:∃ ob:Rd,ob.map Prod.fst=b.nodes∧1≤tb.length∧pPart g (tb ++ rest) (out ++ oa)=⟨false,rest,out ++ oa ++ ob⟩:=by
     cases hc:(b.isSeq || b.isPar) with
     | true=>rw [hc] at eb;exact part_brk hTb tb eb g rest _ (by omega)
     | false =>
      rw [hc] at eb
      simp only [Bool.or_eq_false_iff] at hc
      obtain ⟨n,rfl⟩:=isPar_leaf hc.1 hc.2
      have hl:1≤tb.length:=by
       have:=congrArg List.length eb
       simp only [List.length_map,brkK,tkT,leafK] at this
       split at this
       ·simp at this;omega
       ·split at this
        ·simp at this;omega
        ·split at this <;> (simp at this;omega)
      obtain ⟨g',rfl⟩:∃ g',g=g'+1:=⟨g - 1,by omega⟩
      exact part_leaf h.2 eb g' rest _
    obtain ⟨ob,h4,h5,h6⟩:=hpb
    refine ⟨oa ++ ob ++ [(⟨16,0,⟨#[]⟩⟩,u.pos)],k+1,?_,by simp;omega,?_⟩
    ·simp [h1,h4,Tr.nodes]
    ·rw [show (ta ++ u :: tb) ++ rest=ta ++ u :: (tb ++ rest) by simp,h3,hg,rows_go (by rw [isSym_tk hu];decide) h6]
     rw [show f - (k+1)=g by omega]
     simp
  refine ⟨fun ts ht f rest out hf hr=>?_,fun _=>hR⟩
  obtain ⟨o,k,h1,h2,h3⟩:=hR ts ht f rest out hf
  exact ⟨o,0,h1,by omega,term_of (by rw [h3,rows_stop _ _ _ hr])⟩
 | .seq a b,h=>by
  obtain ⟨hTa,hRa⟩:=tree_ok full a h.1
  obtain ⟨hTb,hRb⟩:=tree_ok full b h.2
  refine ⟨fun ts ht f rest out hf hr=>?_,fun hc=>by cases hc⟩
  rw [tkT] at ht
  obtain ⟨ta,t2,e,ea,e2⟩:=List.map_eq_append_iff.1 ht
  match t2,e2 with
  | u :: tb,e2 =>
   rw [List.map_cons,List.cons.injEq] at e2
   obtain ⟨hu,eb⟩:=e2
   subst e
   simp only [List.length_append,List.length_cons] at hf
   have hu42:isSym (u :: (tb ++ rest)) 42=false:=by rw [isSym_tk hu];decide
   have hta:∃ (oa:Rd) (k:Nat),oa.map Prod.fst=a.nodes∧k+1≤ta.length∧pTerm f (ta ++ u :: (tb ++ rest)) out=pTerms (f - k) (u :: (tb ++ rest)) (out ++ oa):=by
    cases hc:(full && (a.isSeq || a.isPar)) with
    | false=>rw [hc] at ea;exact hTa ta ea f _ out (by omega) hu42
    | true =>
     rw [hc] at ea
     obtain ⟨o,h1,h2,h3⟩:=part_brk hTa ta ea f (u :: (tb ++ rest)) out (by omega)
     exact ⟨o,0,h1,by omega,term_of (by rw [row_of h3,rows_stop _ _ _ hu42])⟩
   obtain ⟨oa,k,h1,h2,h3⟩:=hta
   obtain ⟨g,hg⟩:∃ g,f - k=g+1:=⟨f - k - 1,by omega⟩
   obtain ⟨ob,k2,h4,h5,h6⟩:=row_brk hTb _ (fun hc=>hRb (by simp only [Bool.or_eq_false_iff] at hc;exact hc.1)) tb eb g rest (out ++ oa) (by omega)
   refine ⟨oa ++ ob ++ [(⟨15,0,⟨#[]⟩⟩,u.pos)],k+1,?_,by simp;omega,?_⟩
   ·simp [h1,h4,Tr.nodes]
   ·rw [show (ta ++ u :: tb) ++ rest=ta ++ u :: (tb ++ rest) by simp,h3,hg,terms_go (by rw [isSym_tk hu];decide) (by rw [h6,rows_stop _ _ _ hr])]
    rw [show f - (k+1)=g by omega]
    simp
end Go.Proofs.YtikgblkfmpecfaaGreatDoor
