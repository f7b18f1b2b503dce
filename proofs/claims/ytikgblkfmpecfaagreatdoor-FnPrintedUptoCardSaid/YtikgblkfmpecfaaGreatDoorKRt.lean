/-
  A printed tree is read back. No program in sight. Own work.
-/
import Derived.Test.YtikgblkfmpecfaaGreatDoorKLex
import Derived.Test.YtikgblkfmpecfaaGreatDoorKAA
set_option linter.all false
set_option maxRecDepth 100000
set_option maxHeartbeats 8000000
namespace Go.Proofs.YtikgblkfmpecfaaGreatDoor
def Tr.nodes:Tr → List Nd
 | .leaf n=>[n]
 | .seq a b=>a.nodes ++ b.nodes ++ [⟨15,0,⟨#[]⟩⟩]
 | .par a b=>a.nodes ++ b.nodes ++ [⟨16,0,⟨#[]⟩⟩]
def LeafGood (n:Nd):Prop:=(n.kind=17∧n.value=0∧nameB n.name=true)∨leafB n=true
def Tr.Good:Tr → Prop
 | .leaf n=>LeafGood n
 | .seq a b=>a.Good∧b.Good
 | .par a b=>a.Good∧b.Good
def leafK (n:Nd):List (Int × ByteArray):=if n.kind=17 then [(1,n.name)] else if n.kind=1∨n.kind=7∨n.kind=13 then [(1,word n.kind),(2,numT n.value)] else [(1,word n.kind)]
def brkK (l:List (Int × ByteArray)) (c:Bool):List (Int × ByteArray):=if c then (3,⟨#[40]⟩) :: (l ++ [(3,⟨#[41]⟩)]) else l
def tkT (full:Bool):Tr → List (Int × ByteArray)
 | .leaf n=>leafK n
 | .seq a b=>brkK (tkT full a) (full && (a.isSeq || a.isPar)) ++ (3,⟨#[59]⟩) :: brkK (tkT full b) (b.isSeq || full && b.isPar)
 | .par a b=>brkK (tkT full a) (a.isSeq || full && a.isPar) ++ (3,⟨#[42]⟩) :: brkK (tkT full b) (b.isSeq || b.isPar)
def goodW (x:ByteArray):Bool:=match x.data.toList with
 | b :: w=>lowB b && w.all lodB
 | []=>false
theorem word_good:∀ k:Fin 15,k.val=0∨(goodW (word k.val)=true∧kindOfW (word k.val)=k.val):=by decide
theorem word_ok {k:Int} (h1:1≤k) (h2:k≤14):goodW (word k)=true∧kindOfW (word k)=k:=by
 have h:=word_good ⟨k.toNat,by omega⟩
 have e:((k.toNat:Nat):Int)=k:=by omega
 simp only [e] at h
 rcases h with h|h
 ·omega
 ·exact h
theorem goodW_list {x:ByteArray} (h:goodW x=true):∃ b w,x.data.toList=b :: w∧lowB b=true∧(∀ c ∈ w,lodB c=true)∧x=⟨(b :: w).toArray⟩:=by
 unfold goodW at h
 split at h
 ·rename_i b w e
  simp only [Bool.and_eq_true,List.all_eq_true] at h
  refine ⟨b,w,e,h.1,h.2,?_⟩
  apply ByteArray.ext
  apply Array.toList_inj.1
  simpa using e
 ·cases h
theorem nameB_good {s:ByteArray} (h:nameB s=true):goodW s=true∧kindOfW s=17:=by
 unfold nameB at h
 simp only [Bool.and_eq_true,decide_eq_true_eq] at h
 refine ⟨?_,h.2⟩
 have h1:=h.1
 unfold wordB at h1
 split at h1
 ·rename_i hs
  simp only [Bool.and_eq_true] at h1
  have e:s.data.toList=s[0]'(by omega) :: s.data.toList.drop 1:=by
   have:=List.drop_eq_getElem_cons (l:=s.data.toList) (i:=0) (by simp;omega)
   rw [List.drop_zero] at this
   exact this
  unfold goodW
  rw [e]
  simp only [Bool.and_eq_true]
  exact ⟨h1.1,h1.2⟩
 ·cases h1
theorem dig_of {v:Nat} (h:v<10):digB (UInt8.ofNat (48+v))=true∧((UInt8.ofNat (48+v)).toNat:Int) - 48=v:=by
 have e:(UInt8.ofNat (48+v)).toNat=48+v:=by simp;omega
 unfold digB
 rw [e]
 refine ⟨?_,by omega⟩
 simp only [Bool.and_eq_true,decide_eq_true_eq]
 omega
theorem num_ok {v:Int} (h0:0≤v) (h:v≤96):(∃ b w,(numT v).data.toList=b :: w∧digB b=true∧(∀ c ∈ w,digB c=true)∧w.length+1≤6∧(w=[]∨b ≠ 48))∧numV (numT v)=v:=by
 have en:(numT v).data.toList=Lib.decDigits v.toNat:=by simp [numT]
 unfold numV
 rw [en]
 by_cases h1:v.toNat<10
 ·rw [Lib.decDigits,dif_pos h1]
  obtain ⟨g1,g2⟩:=dig_of h1
  refine ⟨⟨_,[],rfl,g1,by simp,by simp,.inl rfl⟩,?_⟩
  simp only [List.foldl_cons,List.foldl_nil]
  omega
 ·rw [Lib.decDigits,dif_neg h1,Lib.decDigits,dif_pos (by omega)]
  obtain ⟨g1,g2⟩:=dig_of (v:=v.toNat / 10) (by omega)
  obtain ⟨g3,g4⟩:=dig_of (v:=v.toNat % 10) (by omega)
  refine ⟨⟨_,_,rfl,g1,?_,by simp,.inr ?_⟩,?_⟩
  ·intro c hc
   have hc':c ∈ [UInt8.ofNat (48+v.toNat % 10)]:=hc
   rw [List.mem_singleton.1 hc'];exact g3
  ·intro e
   rw [e] at g2
   simp at g2
   omega
  ·simp only [List.cons_append,List.nil_append,List.foldl_cons,List.foldl_nil]
   omega
theorem LeafGood.cases {n:Nd} (h:LeafGood n):(n.kind=17∧n=⟨17,0,n.name⟩∧goodW n.name=true∧kindOfW n.name=17) ∨
  ((n.kind=1∨n.kind=7∨n.kind=13)∧n=⟨n.kind,n.value,⟨#[]⟩⟩∧0≤n.value∧n.value≤96)∨(1≤n.kind∧n.kind≤14∧¬ (n.kind=1∨n.kind=7∨n.kind=13)∧n=⟨n.kind,0,⟨#[]⟩⟩):=by
 obtain ⟨k,v,nm⟩:=n
 rcases h with ⟨h1,h2,h3⟩|h
 ·simp only at h1 h2 h3
  subst h1 h2
  exact .inl ⟨rfl,rfl,nameB_good h3⟩
 ·simp only [leafB,Bool.and_eq_true,decide_eq_true_eq] at h
  obtain ⟨⟨⟨h0,h1⟩,h2⟩,h3⟩:=h
  have hn:nm=⟨#[]⟩:=h0
  subst hn
  simp only at h1 h2 h3 ⊢
  split at h3
  ·simp only [Bool.and_eq_true,decide_eq_true_eq] at h3
   exact .inr (.inl ⟨by omega,by first|rfl|trivial,by omega,by omega⟩)
  ·split at h3
   ·simp only [Bool.and_eq_true,decide_eq_true_eq] at h3
    exact .inr (.inl ⟨by omega,by first|rfl|trivial,by omega,by omega⟩)
   ·simp only [decide_eq_true_eq] at h3
    subst h3
    exact .inr (.inr ⟨h1,h2,by omega,by first|rfl|trivial⟩)
theorem map_map_app {l l':List (Int × ByteArray)} {o:Option (List (Int × ByteArray))}:(o.map (l' ++ ·)).map (l ++ ·)=o.map ((l ++ l') ++ ·):=by
 cases o <;> simp
theorem lex_good {x:ByteArray} {r:List UInt8} (h:goodW x=true) (he:Edge r):lexL (x.data.toList ++ r)=(lexL r).map ([(1,x)] ++ ·):=by
 obtain ⟨b,w,e1,e2,e3,e4⟩:=goodW_list h
 rw [e1,lex_word e2 e3 he,← e4]
 rfl
theorem lex_numT {v:Int} {r:List UInt8} (h0:0≤v) (h:v≤96) (he:Edge r):lexL ((numT v).data.toList ++ r)=(lexL r).map ([(2,numT v)] ++ ·):=by
 obtain ⟨⟨b,w,e1,e2,e3,e4,e5⟩,_⟩:=num_ok h0 h
 have e6:numT v=⟨(b :: w).toArray⟩:=by
  apply ByteArray.ext
  apply Array.toList_inj.1
  simpa using e1
 rw [e1,lex_num e2 e3 he e4 e5,← e6]
 rfl
theorem app_list (a b:ByteArray):(a ++ b).data.toList=a.data.toList ++ b.data.toList:=by simp
theorem lex_leaf {n:Nd} {r:List UInt8} (h:LeafGood n) (he:Edge r):lexL ((leafTxt n).data.toList ++ r)=(lexL r).map (leafK n ++ ·):=by
 unfold leafTxt leafK
 rcases h.cases with ⟨h1,_,h2,_⟩|⟨h1,_,h2,h3⟩|⟨h1,h2,h3,_⟩
 ·rw [if_pos h1,if_pos h1];exact lex_good h2 he
 ·have hk:¬ n.kind=17:=by omega
  rw [if_neg hk,if_neg hk,if_pos h1,if_pos h1,app_list,app_list,List.append_assoc,List.append_assoc]
  rw [lex_good (word_ok (by omega) (by omega)).1 (by exact edge_cons (by decide))]
  rw [show bSp.data.toList ++ ((numT n.value).data.toList ++ r)=32 :: ((numT n.value).data.toList ++ r) from rfl,lex_sp,lex_numT h2 h3 he,map_map_app]
  rfl
 ·have hk:¬ n.kind=17:=by omega
  rw [if_neg hk,if_neg hk,if_neg h3,if_neg h3];exact lex_good (word_ok h1 h2).1 he
theorem lex_brk {s:ByteArray} {l:List (Int × ByteArray)} (h:∀ r,Edge r → lexL (s.data.toList ++ r)=(lexL r).map (l ++ ·)) (c:Bool) (r:List UInt8) (he:Edge r):lexL ((brk s c).data.toList ++ r)=(lexL r).map (brkK l c ++ ·):=by
 cases c
 ·exact h r he
 ·show lexL ((bOpen ++ s ++ bShut).data.toList ++ r)=_
  rw [app_list,app_list,List.append_assoc,List.append_assoc]
  rw [show bOpen.data.toList ++ (s.data.toList ++ (bShut.data.toList ++ r))=40 :: (s.data.toList ++ (41 :: r)) from rfl]
  rw [lex_sym _ (by decide) (by decide) (by decide) (by decide),h _ (edge_cons (by decide)),lex_sym _ (by decide) (by decide) (by decide) (by decide)]
  unfold brkK
  cases lexL r <;> simp
theorem lex_tree (full:Bool):∀ (t:Tr),t.Good → ∀ r,Edge r → lexL ((prT full t).data.toList ++ r)=(lexL r).map (tkT full t ++ ·)
 | .leaf n,h,r,he=>lex_leaf h he
 | .seq a b,h,r,he=>by
  have ha:=lex_brk (lex_tree full a h.1) (full && (a.isSeq || a.isPar))
  have hb:=lex_brk (lex_tree full b h.2) (b.isSeq || full && b.isPar)
  rw [prT,app_list,app_list,List.append_assoc,List.append_assoc]
  rw [ha _ (by exact edge_cons (by decide))]
  rw [show ∀ l:List UInt8,bSeq.data.toList ++ l=32 :: 59 :: 32 :: l from fun _=>rfl]
  rw [lex_sp,lex_sym _ (by decide) (by decide) (by decide) (by decide),lex_sp,hb r he,tkT]
  cases lexL r <;> simp
 | .par a b,h,r,he=>by
  have ha:=lex_brk (lex_tree full a h.1) (a.isSeq || full && a.isPar)
  have hb:=lex_brk (lex_tree full b h.2) (b.isSeq || b.isPar)
  rw [prT,app_list,app_list,List.append_assoc,List.append_assoc]
  rw [ha _ (by exact edge_cons (by decide))]
  rw [show ∀ l:List UInt8,bPar.data.toList ++ l=32 :: 42 :: 32 :: l from fun _=>rfl]
  rw [lex_sp,lex_sym _ (by decide) (by decide) (by decide) (by decide),lex_sp,hb r he,tkT]
  cases lexL r <;> simp
end Go.Proofs.YtikgblkfmpecfaaGreatDoor
