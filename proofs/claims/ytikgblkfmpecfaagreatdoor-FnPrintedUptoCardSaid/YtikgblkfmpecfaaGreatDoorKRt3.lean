/-
  A printed term is read back as it was. No program in sight. Own work.
-/
import Derived.Test.YtikgblkfmpecfaaGreatDoorKRt2
import Derived.Test.YtikgblkfmpecfaaGreatDoorKLW
set_option linter.all false
set_option maxRecDepth 100000
set_option maxHeartbeats 8000000
namespace Go.Proofs.YtikgblkfmpecfaaGreatDoor
def flatT (ts:List Tr):List Nd:=(ts.reverse.map Tr.nodes).flatten
theorem flatT_cons (t:Tr) (ts:List Tr):flatT (t :: ts)=flatT ts ++ t.nodes:=by simp [flatT]
theorem leafIn_good {L:List Df} (hN:∀ d ∈ L,nameB d.name=true) {n:Nd} {x:W2} (h:leafIn L n=some x):LeafGood n:=by
 unfold leafIn at h
 split at h
 ·rename_i hk
  split at h
  ·rename_i hv
   cases hf:findD L n.name with
   | none=>rw [hf] at h;cases h
   | some d =>
    unfold findD at hf
    have h1:=List.mem_of_find?_eq_some hf
    have h2:=List.find?_some hf
    simp only [decide_eq_true_eq] at h2
    exact .inl ⟨hk,hv,by rw [← h2];exact hN d h1⟩
  ·cases h
 ·split at h
  ·rename_i hl;exact .inr hl
  ·cases h
theorem op_eq {n:Nd} (h:n.value=0∧n.name=ByteArray.empty):n=⟨n.kind,0,⟨#[]⟩⟩:=by
 obtain ⟨k,v,nm⟩:=n
 simp only at h
 obtain ⟨rfl,rfl⟩:=h
 rfl
theorem trees_back {L:List Df} (hN:∀ d ∈ L,nameB d.name=true):∀ (ns:List Nd) (st st':List W2) (ts:List Tr),typedGo (leafIn L) ns st=some st' → ts.length=st.length → (∀ t ∈ ts,t.Good) →
  ∃ ts',treesGo ns ts=some ts'∧ts'.length=st'.length∧(∀ t ∈ ts',t.Good)∧flatT ts'=flatT ts ++ ns
 | [],st,st',ts,h,hl,ho=>by
  simp only [typedGo,Option.some.injEq] at h
  subst h
  exact ⟨ts,rfl,hl,ho,by simp⟩
 | n :: r,st,st',ts,h,hl,ho=>by
  by_cases hk:n.kind=15∨n.kind=16
  ·unfold typedGo at h
   rw [if_pos hk] at h
   split at h
   ·rename_i hop
    have hn:=op_eq hop
    split at h
    ·rename_i b a st0
     split at h
     ·rename_i x hx
      match ts,hl,ho with
      | tb :: ta :: ts0,hl,ho =>
       have hta:ta.Good:=ho ta (by simp)
       have htb:tb.Good:=ho tb (by simp)
       rcases hk with hk|hk
       ·rw [treesGo_seq hk]
        obtain ⟨ts',h1,h2,h3,h4⟩:=trees_back hN r _ st' (.seq ta tb :: ts0) h (by simp at hl ⊢;omega) (by
         intro t ht
         rcases List.mem_cons.1 ht with rfl|ht
         ·exact ⟨hta,htb⟩
         ·exact ho t (by simp [ht]))
        refine ⟨ts',h1,h2,h3,?_⟩
        rw [h4,flatT_cons,flatT_cons,flatT_cons,Tr.nodes,hn,hk]
        simp
       ·rw [treesGo_par hk]
        obtain ⟨ts',h1,h2,h3,h4⟩:=trees_back hN r _ st' (.par ta tb :: ts0) h (by simp at hl ⊢;omega) (by
         intro t ht
         rcases List.mem_cons.1 ht with rfl|ht
         ·exact ⟨hta,htb⟩
         ·exact ho t (by simp [ht]))
        refine ⟨ts',h1,h2,h3,?_⟩
        rw [h4,flatT_cons,flatT_cons,flatT_cons,Tr.nodes,hn,hk]
        simp
     ·cases h
    ·cases h
   ·cases h
  ·unfold typedGo at h
   rw [if_neg hk] at h
   split at h
   ·rename_i x hx
    rw [treesGo_leaf hk]
    obtain ⟨ts',h1,h2,h3,h4⟩:=trees_back hN r _ st' (.leaf n :: ts) h (by simp;omega) (by
     intro t ht
     rcases List.mem_cons.1 ht with rfl|ht
     ·exact leafIn_good hN hx
     ·exact ho t ht)
    refine ⟨ts',h1,h2,h3,?_⟩
    rw [h4,flatT_cons,Tr.nodes]
    simp
   ·cases h
theorem chk_none {leaf:Nd → Option W2}:∀ (r:Rd) (i:Nat) (st st':List W2),typedGo leaf (r.map Prod.fst) st=some st' → i+r.length≤400 → chkGo leaf r i st=none
 | [],_,_,_,_,_=>rfl
 | x :: r,i,st,st',h,hl=>by
  have hi:¬ 400≤i:=by simp at hl;omega
  rw [List.map_cons] at h
  unfold typedGo at h
  by_cases hk:x.1.kind=15∨x.1.kind=16
  ·rw [if_pos hk] at h
   split at h
   ·split at h
    ·split at h
     ·rename_i w hj
      rw [chk_join hi hk hj]
      exact chk_none r (i+1) _ st' h (by simp at hl;omega)
     ·cases h
    ·cases h
   ·cases h
  ·rw [if_neg hk] at h
   split at h
   ·rename_i w hw
    rw [chk_leaf hi hk hw]
    exact chk_none r (i+1) _ st' h (by simp at hl;omega)
   ·cases h
theorem read_back (full:Bool) {L:List Df} {ns:List Nd} {x:W2} (hg:good L=true) (h:typedL (leafIn L) ns=some x) :
  ∃ ts,tokL (prT full (treeL ns))=.ok ts∧wholeL L (prT full (treeL ns)).size ts=.ok ns:=by
 have hN:=good_names hg
 have h8:∀ d ∈ L,d.name.size≤8:=fun d hd=>nameB_size (hN d hd)
 obtain ⟨t,ht,hok,hct⟩:=tree_of_typed h8 h
 have hlen:=typedL_len h
 rw [treeL_eq ht]
 unfold typedL at h
 split at h
 ·split at h
  ·rename_i w hy
   obtain ⟨ts',h1,h2,h3,h4⟩:=trees_back hN ns [] _ [] hy rfl (by simp)
   rw [ht] at h1
   obtain rfl:=Option.some.inj h1
   have hgt:=h3 t (by simp)
   have hns:t.nodes=ns:=by simpa [flatT] using h4
   have hsz:=prT_size full t hok
   have hlx:=lex_tree full t hgt [] edge_nil
   rw [List.append_nil,lexL] at hlx
   simp only [Option.map_some,List.append_nil] at hlx
   obtain ⟨ts,e1,e2⟩:=tok_lex (prT full t) _ 0 rfl _ (by rw [List.drop_zero];exact hlx)
   refine ⟨ts,?_,?_⟩
   ·unfold tokL
    rw [if_neg (by omega)]
    exact e1
   ·obtain ⟨o,k,g1,g2,g3⟩:=(tree_ok full t hgt).1 ts e2 ts.length [] [] (Nat.le_refl _) rfl
    rw [List.append_nil,List.nil_append,terms_stop _ _ _ rfl] at g3
    unfold wholeL
    rw [g3]
    simp only
    rw [if_neg (by simp)]
    have hc:chkGo (leafIn L) o 0 []=none:=chk_none o 0 [] _ (by rw [g1,hns];exact hy) (by
     have:=congrArg List.length g1
     rw [List.length_map,hns] at this
     omega)
    rw [hc]
    simp only
    rw [g1,hns]
  ·cases h
 ·cases h
end Go.Proofs.YtikgblkfmpecfaaGreatDoor
