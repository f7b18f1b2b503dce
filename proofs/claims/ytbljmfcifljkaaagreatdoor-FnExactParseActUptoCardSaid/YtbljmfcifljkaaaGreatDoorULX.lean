/-
  Tokens of a list of bytes, without their places; tokens of a printed tree. No program in sight. Own work.
-/
import Derived.Test.YtbljmfcifljkaaaGreatDoorUAA
import Derived.Test.YtbljmfcifljkaaaGreatDoorUT
import Derived.Test.YtbljmfcifljkaaaGreatDoorULW
set_option linter.all false
set_option maxRecDepth 100000
set_option maxHeartbeats 8000000
namespace Go.Proofs.YtbljmfcifljkaaaGreatDoor
def spB (b:UInt8):Bool:=b == 32 || b == 10
def lexL:List UInt8 → Option (List (Int × ByteArray))
 | []=>some []
 | b :: r =>
  if spB b then lexL r
  else if lowB b then (lexL (r.dropWhile lodB)).map ((1,⟨(b :: r.takeWhile lodB).toArray⟩) :: ·)
  else if digB b then
   (if (r.takeWhile digB).length+1 > 6∨((r.takeWhile digB).length+1 > 1∧b=48) then none
    else (lexL (r.dropWhile digB)).map ((2,⟨(b :: r.takeWhile digB).toArray⟩) :: ·))
  else if symB b then (lexL r).map ((3,⟨#[b]⟩) :: ·)
  else none
 termination_by l=>l.length
 decreasing_by
  all_goals simp_wf
  ·have:=(List.dropWhile_sublist lodB (l:=r)).length_le;omega
  ·have:=(List.dropWhile_sublist digB (l:=r)).length_le;omega
def tk2 (t:Tk):Int × ByteArray:=(t.kind,t.text)
theorem cut_list (s:ByteArray) (i j:Nat) (h:i≤j):s.extract i j=⟨((s.data.toList.drop i).take (j - i)).toArray⟩:=by
 apply ByteArray.ext
 apply Array.toList_inj.1
 simp [ByteArray.extract,ByteArray.copySlice,List.drop_take]
theorem take_while (p:UInt8 → Bool) (l:List UInt8):l.take (l.takeWhile p).length=l.takeWhile p:=by
 induction l with
 | nil=>rfl
 | cons b r ih =>
  rw [List.takeWhile_cons]
  split
  ·simp [ih]
  ·rfl
theorem drop_while (p:UInt8 → Bool) (l:List UInt8):l.drop (l.takeWhile p).length=l.dropWhile p:=by
 induction l with
 | nil=>rfl
 | cons b r ih =>
  rw [List.takeWhile_cons,List.dropWhile_cons]
  split
  ·simp [ih]
  ·rfl
theorem tok_lex (s:ByteArray):∀ (n i:Nat),s.size - i=n → ∀ l,lexL (s.data.toList.drop i)=some l → ∃ ts,tokFrom s i=.ok ts∧ts.map tk2=l:=by
 intro n
 induction n using Nat.strongRecOn with
 | _ n ih =>
  intro i hn l h
  by_cases hi:i<s.size
  ·have hd:s.data.toList.drop i=s[i] :: s.data.toList.drop (i+1):=List.drop_eq_getElem_cons (by simpa using hi)
   rw [hd,lexL] at h
   rw [tokFrom,dif_pos hi]
   by_cases h1:spB s[i]=true
   ·rw [if_pos h1] at h
    rw [if_pos (by simpa [spB] using h1)]
    exact ih (s.size - (i+1)) (by omega) (i+1) rfl l h
   rw [if_neg h1] at h
   rw [if_neg (by simpa [spB] using h1)]
   by_cases h2:lowB s[i]=true
   ·rw [if_pos h2] at h ⊢
    have he:endOf lodB s (i+1)=i+1+((s.data.toList.drop (i+1)).takeWhile lodB).length:=rfl
    have hle:=(endOf_le (p:=lodB) (s:=s) (i:=i+1) hi)
    rw [← drop_while,List.drop_drop,← he] at h
    cases hr:lexL (s.data.toList.drop (endOf lodB s (i+1))) with
    | none=>rw [hr] at h;cases h
    | some l' =>
     rw [hr] at h
     obtain ⟨ts,e1,e2⟩:=ih (s.size - endOf lodB s (i+1)) (by omega) _ rfl l' hr
     rw [e1]
     refine ⟨_,rfl,?_⟩
     simp only [Option.map_some,Option.some.injEq] at h
     rw [← h,List.map_cons,e2]
     congr 1
     simp only [tk2,cutB]
     rw [cut_list _ _ _ (by omega),hd,he,show i+1+((s.data.toList.drop (i+1)).takeWhile lodB).length - i=((s.data.toList.drop (i+1)).takeWhile lodB).length+1 by omega,List.take_succ_cons,take_while]
   rw [if_neg h2] at h ⊢
   by_cases h3:digB s[i]=true
   ·rw [if_pos h3] at h ⊢
    have he:endOf digB s (i+1)=i+1+((s.data.toList.drop (i+1)).takeWhile digB).length:=rfl
    have hle:=(endOf_le (p:=digB) (s:=s) (i:=i+1) hi)
    split at h
    ·cases h
    ·rename_i h4
     rw [if_neg (by rw [he,show i+1+((s.data.toList.drop (i+1)).takeWhile digB).length - i=((s.data.toList.drop (i+1)).takeWhile digB).length+1 by omega];exact h4)]
     rw [← drop_while,List.drop_drop,← he] at h
     cases hr:lexL (s.data.toList.drop (endOf digB s (i+1))) with
     | none=>rw [hr] at h;cases h
     | some l' =>
      rw [hr] at h
      obtain ⟨ts,e1,e2⟩:=ih (s.size - endOf digB s (i+1)) (by omega) _ rfl l' hr
      rw [e1]
      refine ⟨_,rfl,?_⟩
      simp only [Option.map_some,Option.some.injEq] at h
      rw [← h,List.map_cons,e2]
      congr 1
      simp only [tk2,cutB]
      rw [cut_list _ _ _ (by omega),hd,he,show i+1+((s.data.toList.drop (i+1)).takeWhile digB).length - i=((s.data.toList.drop (i+1)).takeWhile digB).length+1 by omega,List.take_succ_cons,take_while]
   rw [if_neg h3] at h ⊢
   by_cases h4:symB s[i]=true
   ·rw [if_pos h4] at h ⊢
    cases hr:lexL (s.data.toList.drop (i+1)) with
    | none=>rw [hr] at h;cases h
    | some l' =>
     rw [hr] at h
     obtain ⟨ts,e1,e2⟩:=ih (s.size - (i+1)) (by omega) _ rfl l' hr
     rw [e1]
     refine ⟨_,rfl,?_⟩
     simp only [Option.map_some,Option.some.injEq] at h
     rw [← h,List.map_cons,e2]
     congr 1
     simp only [tk2,cutB]
     rw [cut_list _ _ _ (by omega),hd,show i+1 - i=1 by omega]
     rfl
   ·rw [if_neg h4] at h;cases h
  ·rw [List.drop_eq_nil_of_le (by simpa using hi),lexL] at h
   rw [tokFrom,dif_neg hi]
   exact ⟨[],rfl,by simpa using h⟩
def Edge (r:List UInt8):Prop:=∀ b r',r=b :: r' → lodB b=false
theorem edge_nil:Edge []:=fun _ _ h=>by cases h
theorem edge_cons {b:UInt8} {r:List UInt8} (h:lodB b=false):Edge (b :: r):=fun c r' e=>by cases e;exact h
theorem while_app {p:UInt8 → Bool}:∀ {w r:List UInt8},(∀ b ∈ w,p b=true) → (∀ b r',r=b :: r' → p b=false) → (w ++ r).takeWhile p=w∧(w ++ r).dropWhile p=r
 | [],[],_,_=>⟨rfl,rfl⟩
 | [],b :: r,_,h=>by simp [h b r rfl]
 | c :: w,r,hw,h=>by
  obtain ⟨h1,h2⟩:=while_app (w:=w) (fun b hb=>hw b (List.mem_cons_of_mem _ hb)) h
  have hc:=hw c (List.mem_cons_self ..)
  simp [hc,h1,h2]
theorem low_nosp {b:UInt8} (h:lowB b=true):spB b=false:=by
 simp only [lowB,Bool.and_eq_true,decide_eq_true_eq] at h
 simp only [spB,Bool.or_eq_false_iff,beq_eq_false_iff_ne]
 constructor <;> (rintro rfl;revert h;decide)
theorem dig_nosp {b:UInt8} (h:digB b=true):spB b=false∧lowB b=false:=by
 simp only [digB,Bool.and_eq_true,decide_eq_true_eq] at h
 refine ⟨?_,?_⟩
 ·simp only [spB,Bool.or_eq_false_iff,beq_eq_false_iff_ne]
  constructor <;> (rintro rfl;revert h;decide)
 ·simp only [lowB,Bool.and_eq_false_iff,decide_eq_false_iff_not]
  left;omega
theorem lex_word {b:UInt8} {w r:List UInt8} (hb:lowB b=true) (hw:∀ c ∈ w,lodB c=true) (he:Edge r):lexL (b :: w ++ r)=(lexL r).map ((1,⟨(b :: w).toArray⟩) :: ·):=by
 obtain ⟨h1,h2⟩:=while_app (p:=lodB) hw he
 rw [List.cons_append,lexL,if_neg (by rw [low_nosp hb];simp),if_pos hb,h1,h2]
theorem lex_num {b:UInt8} {w r:List UInt8} (hb:digB b=true) (hw:∀ c ∈ w,digB c=true) (he:Edge r) (hl:w.length+1≤6) (h0:w=[]∨b ≠ 48):lexL (b :: w ++ r)=(lexL r).map ((2,⟨(b :: w).toArray⟩) :: ·):=by
 obtain ⟨h1,h2⟩:=while_app (p:=digB) hw (fun c r' e=>by
  have:=he c r' e
  simp only [lodB,Bool.or_eq_false_iff] at this
  exact this.2)
 obtain ⟨g1,g2⟩:=dig_nosp hb
 rw [List.cons_append,lexL,if_neg (by rw [g1];simp),if_neg (by rw [g2];simp),if_pos hb,h1,h2,if_neg]
 rintro (h|⟨h,h'⟩)
 ·omega
 ·rcases h0 with rfl|h0
  ·simp at h
  ·exact h0 h'
theorem lex_sp (r:List UInt8):lexL (32 :: r)=lexL r:=by rw [lexL,if_pos (by decide)]
theorem lex_sym {b:UInt8} (r:List UInt8) (h1:spB b=false) (h2:lowB b=false) (h3:digB b=false) (h4:symB b=true):lexL (b :: r)=(lexL r).map ((3,⟨#[b]⟩) :: ·):=by
 rw [lexL,if_neg (by rw [h1];simp),if_neg (by rw [h2];simp),if_neg (by rw [h3];simp),if_pos h4]
end Go.Proofs.YtbljmfcifljkaaaGreatDoor
/-
  A printed tree is read back. No program in sight. Own work.
-/
namespace Go.Proofs.YtbljmfcifljkaaaGreatDoor
def Tr.nodes:Tr → List Nd
 | .leaf n=>[n]
 | .seq a b=>a.nodes ++ b.nodes ++ [⟨15,0,⟨#[]⟩⟩]
 | .par a b=>a.nodes ++ b.nodes ++ [⟨16,0,⟨#[]⟩⟩]
def LeafGood (n:Nd):Prop:=(n.kind=17∧n.value=0∧nameB n.name=true)∨leafB n=true
def Tr.Good:Tr → Prop
 | .leaf n=>LeafGood n
 | .seq a b=>a.Good∧b.Good
 | .par a b=>a.Good∧b.Good
def leafK (n:Nd):List (Int × ByteArray):=if n.kind=17 then [(1,n.name)] else if n.kind=1∨n.kind=7∨n.kind=13 then [(1,word n.kind),(2,numT n.value)] else [(1,word n.kind)]
def brkK (l:List (Int × ByteArray)) (c:Bool):List (Int × ByteArray):=if c then (3,⟨#[40]⟩) :: (l ++ [(3,⟨#[41]⟩)]) else l
def tkT (full:Bool):Tr → List (Int × ByteArray)
 | .leaf n=>leafK n
 | .seq a b=>brkK (tkT full a) (full && (a.isSeq || a.isPar)) ++ (3,⟨#[59]⟩) :: brkK (tkT full b) (b.isSeq || full && b.isPar)
 | .par a b=>brkK (tkT full a) (a.isSeq || full && a.isPar) ++ (3,⟨#[42]⟩) :: brkK (tkT full b) (b.isSeq || b.isPar)
def goodW (x:ByteArray):Bool:=match x.data.toList with
 | b :: w=>lowB b && w.all lodB
 | []=>false
theorem word_good:∀ k:Fin 15,k.val=0∨(goodW (word k.val)=true∧kindOfW (word k.val)=k.val):=by decide
theorem word_ok {k:Int} (h1:1≤k) (h2:k≤14):goodW (word k)=true∧kindOfW (word k)=k:=by
 have h:=word_good ⟨k.toNat,by omega⟩
 have e:((k.toNat:Nat):Int)=k:=by omega
 simp only [e] at h
 rcases h with h|h
 ·omega
 ·exact h
theorem goodW_list {x:ByteArray} (h:goodW x=true):∃ b w,x.data.toList=b :: w∧lowB b=true∧(∀ c ∈ w,lodB c=true)∧x=⟨(b :: w).toArray⟩:=by
 unfold goodW at h
 split at h
 ·rename_i b w e
  simp only [Bool.and_eq_true,List.all_eq_true] at h
  refine ⟨b,w,e,h.1,h.2,?_⟩
  apply ByteArray.ext
  apply Array.toList_inj.1
  simpa using e
 ·cases h
theorem nameB_good {s:ByteArray} (h:nameB s=true):goodW s=true∧kindOfW s=17:=by
 unfold nameB at h
 simp only [Bool.and_eq_true,decide_eq_true_eq] at h
 refine ⟨?_,h.2⟩
 have h1:=h.1
 unfold wordB at h1
 split at h1
 ·rename_i hs
  simp only [Bool.and_eq_true] at h1
  have e:s.data.toList=s[0]'(by omega) :: s.data.toList.drop 1:=by
   have:=List.drop_eq_getElem_cons (l:=s.data.toList) (i:=0) (by simp;omega)
   rw [List.drop_zero] at this
   exact this
  unfold goodW
  rw [e]
  simp only [Bool.and_eq_true]
  exact ⟨h1.1,h1.2⟩
 ·cases h1
theorem dig_of {v:Nat} (h:v<10):digB (UInt8.ofNat (48+v))=true∧((UInt8.ofNat (48+v)).toNat:Int) - 48=v:=by
 have e:(UInt8.ofNat (48+v)).toNat=48+v:=by simp;omega
 unfold digB
 rw [e]
 refine ⟨?_,by omega⟩
 simp only [Bool.and_eq_true,decide_eq_true_eq]
 omega
theorem num_ok {v:Int} (h0:0≤v) (h:v≤96):(∃ b w,(numT v).data.toList=b :: w∧digB b=true∧(∀ c ∈ w,digB c=true)∧w.length+1≤6∧(w=[]∨b ≠ 48))∧numV (numT v)=v:=by
 have en:(numT v).data.toList=Lib.decDigits v.toNat:=by simp [numT]
 unfold numV
 rw [en]
 by_cases h1:v.toNat<10
 ·rw [Lib.decDigits,dif_pos h1]
  obtain ⟨g1,g2⟩:=dig_of h1
  refine ⟨⟨_,[],rfl,g1,by simp,by simp,.inl rfl⟩,?_⟩
  simp only [List.foldl_cons,List.foldl_nil]
  omega
 ·rw [Lib.decDigits,dif_neg h1,Lib.decDigits,dif_pos (by omega)]
  obtain ⟨g1,g2⟩:=dig_of (v:=v.toNat / 10) (by omega)
  obtain ⟨g3,g4⟩:=dig_of (v:=v.toNat % 10) (by omega)
  refine ⟨⟨_,_,rfl,g1,?_,by simp,.inr ?_⟩,?_⟩
  ·intro c hc
   have hc':c ∈ [UInt8.ofNat (48+v.toNat % 10)]:=hc
   rw [List.mem_singleton.1 hc'];exact g3
  ·intro e
   rw [e] at g2
   simp at g2
   omega
  ·simp only [List.cons_append,List.nil_append,List.foldl_cons,List.foldl_nil]
   omega
theorem LeafGood.cases {n:Nd} (h:LeafGood n):(n.kind=17∧n=⟨17,0,n.name⟩∧goodW n.name=true∧kindOfW n.name=17) ∨
  ((n.kind=1∨n.kind=7∨n.kind=13)∧n=⟨n.kind,n.value,⟨#[]⟩⟩∧0≤n.value∧n.value≤96)∨(1≤n.kind∧n.kind≤14∧¬ (n.kind=1∨n.kind=7∨n.kind=13)∧n=⟨n.kind,0,⟨#[]⟩⟩):=by
 obtain ⟨k,v,nm⟩:=n
 rcases h with ⟨h1,h2,h3⟩|h
 ·simp only at h1 h2 h3
  subst h1 h2
  exact .inl ⟨rfl,rfl,nameB_good h3⟩
 ·simp only [leafB,Bool.and_eq_true,decide_eq_true_eq] at h
  obtain ⟨⟨⟨h0,h1⟩,h2⟩,h3⟩:=h
  have hn:nm=⟨#[]⟩:=h0
  subst hn
  simp only at h1 h2 h3 ⊢
  split at h3
  ·simp only [Bool.and_eq_true,decide_eq_true_eq] at h3
   exact .inr (.inl ⟨by omega,by first|rfl|trivial,by omega,by omega⟩)
  ·split at h3
   ·simp only [Bool.and_eq_true,decide_eq_true_eq] at h3
    exact .inr (.inl ⟨by omega,by first|rfl|trivial,by omega,by omega⟩)
   ·simp only [decide_eq_true_eq] at h3
    subst h3
    exact .inr (.inr ⟨h1,h2,by omega,by first|rfl|trivial⟩)
theorem map_map_app {l l':List (Int × ByteArray)} {o:Option (List (Int × ByteArray))}:(o.map (l' ++ ·)).map (l ++ ·)=o.map ((l ++ l') ++ ·):=by
 cases o <;> simp
theorem lex_good {x:ByteArray} {r:List UInt8} (h:goodW x=true) (he:Edge r):lexL (x.data.toList ++ r)=(lexL r).map ([(1,x)] ++ ·):=by
 obtain ⟨b,w,e1,e2,e3,e4⟩:=goodW_list h
 rw [e1,lex_word e2 e3 he,← e4]
 rfl
theorem lex_numT {v:Int} {r:List UInt8} (h0:0≤v) (h:v≤96) (he:Edge r):lexL ((numT v).data.toList ++ r)=(lexL r).map ([(2,numT v)] ++ ·):=by
 obtain ⟨⟨b,w,e1,e2,e3,e4,e5⟩,_⟩:=num_ok h0 h
 have e6:numT v=⟨(b :: w).toArray⟩:=by
  apply ByteArray.ext
  apply Array.toList_inj.1
  simpa using e1
 rw [e1,lex_num e2 e3 he e4 e5,← e6]
 rfl
theorem app_list (a b:ByteArray):(a ++ b).data.toList=a.data.toList ++ b.data.toList:=by simp
theorem lex_leaf {n:Nd} {r:List UInt8} (h:LeafGood n) (he:Edge r):lexL ((leafTxt n).data.toList ++ r)=(lexL r).map (leafK n ++ ·):=by
 unfold leafTxt leafK
 rcases h.cases with ⟨h1,_,h2,_⟩|⟨h1,_,h2,h3⟩|⟨h1,h2,h3,_⟩
 ·rw [if_pos h1,if_pos h1];exact lex_good h2 he
 ·have hk:¬ n.kind=17:=by omega
  rw [if_neg hk,if_neg hk,if_pos h1,if_pos h1,app_list,app_list,List.append_assoc,List.append_assoc]
  rw [lex_good (word_ok (by omega) (by omega)).1 (by exact edge_cons (by decide))]
  rw [show bSp.data.toList ++ ((numT n.value).data.toList ++ r)=32 :: ((numT n.value).data.toList ++ r) from rfl,lex_sp,lex_numT h2 h3 he,map_map_app]
  rfl
 ·have hk:¬ n.kind=17:=by omega
  rw [if_neg hk,if_neg hk,if_neg h3,if_neg h3];exact lex_good (word_ok h1 h2).1 he
theorem lex_brk {s:ByteArray} {l:List (Int × ByteArray)} (h:∀ r,Edge r → lexL (s.data.toList ++ r)=(lexL r).map (l ++ ·)) (c:Bool) (r:List UInt8) (he:Edge r):lexL ((brk s c).data.toList ++ r)=(lexL r).map (brkK l c ++ ·):=by
 cases c
 ·exact h r he
 ·show lexL ((bOpen ++ s ++ bShut).data.toList ++ r)=_
  rw [app_list,app_list,List.append_assoc,List.append_assoc]
  rw [show bOpen.data.toList ++ (s.data.toList ++ (bShut.data.toList ++ r))=40 :: (s.data.toList ++ (41 :: r)) from rfl]
  rw [lex_sym _ (by decide) (by decide) (by decide) (by decide),h _ (edge_cons (by decide)),lex_sym _ (by decide) (by decide) (by decide) (by decide)]
  unfold brkK
  cases lexL r <;> simp
theorem lex_tree (full:Bool):∀ (t:Tr),t.Good → ∀ r,Edge r → lexL ((prT full t).data.toList ++ r)=(lexL r).map (tkT full t ++ ·)
 | .leaf n,h,r,he=>lex_leaf h he
 | .seq a b,h,r,he=>by
  have ha:=lex_brk (lex_tree full a h.1) (full && (a.isSeq || a.isPar))
  have hb:=lex_brk (lex_tree full b h.2) (b.isSeq || full && b.isPar)
  rw [prT,app_list,app_list,List.append_assoc,List.append_assoc]
  rw [ha _ (by exact edge_cons (by decide))]
  rw [show ∀ l:List UInt8,bSeq.data.toList ++ l=32 :: 59 :: 32 :: l from fun _=>rfl]
  rw [lex_sp,lex_sym _ (by decide) (by decide) (by decide) (by decide),lex_sp,hb r he,tkT]
  cases lexL r <;> simp
 | .par a b,h,r,he=>by
  have ha:=lex_brk (lex_tree full a h.1) (a.isSeq || full && a.isPar)
  have hb:=lex_brk (lex_tree full b h.2) (b.isSeq || b.isPar)
  rw [prT,app_list,app_list,List.append_assoc,List.append_assoc]
  rw [ha _ (by exact edge_cons (by decide))]
  rw [show ∀ l:List UInt8,bPar.data.toList ++ l=32 :: 42 :: 32 :: l from fun _=>rfl]
  rw [lex_sp,lex_sym _ (by decide) (by decide) (by decide) (by decide),lex_sp,hb r he,tkT]
  cases lexL r <;> simp
end Go.Proofs.YtbljmfcifljkaaaGreatDoor
/-
  The tokens of a printed tree are parsed to its nodes. No program in sight. Own work.
-/
namespace Go.Proofs.YtbljmfcifljkaaaGreatDoor
theorem isSym_tk {t:Tk} {r:List Tk} {b:UInt8} {x:Int × ByteArray} (h:tk2 t=x):isSym (t :: r) b=(decide (x.1=3) && decide (x.2=⟨#[b]⟩)):=by
 subst h;rfl
theorem rows_stop (f:Nat) (ts:List Tk) (out:Rd) (h:isSym ts 42=false):pRows f ts out=⟨false,ts,out⟩:=by
 cases f with
 | zero=>rw [pRows.eq_def];simp only;rw [h]
 | succ f=>rw [pRows.eq_def];simp only;rw [if_neg (by rw [h];simp)]
theorem terms_stop (f:Nat) (ts:List Tk) (out:Rd) (h:isSym ts 59=false):pTerms f ts out=⟨false,ts,out⟩:=by
 cases f with
 | zero=>rw [pTerms.eq_def];simp only;rw [h]
 | succ f=>rw [pTerms.eq_def];simp only;rw [if_neg (by rw [h];simp)]
theorem row_of {f:Nat} {ts r:List Tk} {out o:Rd} (h:pPart f ts out=⟨false,r,o⟩):pRow f ts out=pRows f r o:=by rw [pRow.eq_def,h]
theorem term_of {f:Nat} {ts r:List Tk} {out o:Rd} (h:pRow f ts out=⟨false,r,o⟩):pTerm f ts out=pTerms f r o:=by rw [pTerm.eq_def,h]
theorem rows_go {f:Nat} {u:Tk} {ts r:List Tk} {out o:Rd} (hu:isSym (u :: ts) 42=true) (h:pPart f ts out=⟨false,r,o⟩):pRows (f+1) (u :: ts) out=pRows f r (o ++ [(⟨16,0,⟨#[]⟩⟩,u.pos)]):=by
 conv=>lhs;rw [pRows.eq_def]
 simp only
 rw [if_pos hu,List.tail_cons,h]
 rfl
theorem terms_go {f:Nat} {u:Tk} {ts r:List Tk} {out o:Rd} (hu:isSym (u :: ts) 59=true) (h:pRow f ts out=⟨false,r,o⟩):pTerms (f+1) (u :: ts) out=pTerms f r (o ++ [(⟨15,0,⟨#[]⟩⟩,u.pos)]):=by
 conv=>lhs;rw [pTerms.eq_def]
 simp only
 rw [if_pos hu,List.tail_cons,h]
 rfl
theorem part_par {f:Nat} {u v:Tk} {ts r:List Tk} {out o:Rd} (hu:isSym (u :: ts) 40=true) (h:pTerm f ts out=⟨false,v :: r,o⟩) (hv:isSym (v :: r) 41=true):pPart (f+1) (u :: ts) out=⟨false,r,o⟩:=by
 rw [pPart.eq_def]
 simp only
 rw [if_pos hu,List.tail_cons,h]
 simp only
 rw [if_pos hv]
 rfl
theorem map1 {ts:List Tk} {x:Int × ByteArray} (h:ts.map tk2=[x]):∃ t,ts=[t]∧t.kind=x.1∧t.text=x.2:=by
 match ts,h with
 | [t],h=>simp only [List.map_cons,List.map_nil,List.cons.injEq,and_true] at h;subst h;exact ⟨t,rfl,rfl,rfl⟩
theorem map2 {ts:List Tk} {x y:Int × ByteArray} (h:ts.map tk2=[x,y]):∃ t u,ts=[t,u]∧(t.kind=x.1∧t.text=x.2)∧u.kind=y.1∧u.text=y.2:=by
 obtain ⟨t,r,rfl,e,h'⟩:=List.map_eq_cons_iff.1 h
 obtain ⟨u,rfl,e1,e2⟩:=map1 h'
 subst e
 exact ⟨t,u,rfl,⟨rfl,rfl⟩,e1,e2⟩
theorem part_word {f:Nat} {t:Tk} {r:List Tk} {out:Rd} (hk:t.kind=1) (hn:¬ (kindOfW t.text=1∨kindOfW t.text=7∨kindOfW t.text=13)):pPart (f+1) (t :: r) out=⟨false,r,out ++ [(nodeOf t.text,t.pos)]⟩:=by
 rw [pPart.eq_def]
 simp only
 rw [if_neg (by simp [isSym,hk]),if_pos hk,if_neg hn]
theorem part_num {f:Nat} {t u:Tk} {r:List Tk} {out:Rd} (hk:t.kind=1) (hn:kindOfW t.text=1∨kindOfW t.text=7∨kindOfW t.text=13) (hu:u.kind=2):pPart (f+1) (t :: u :: r) out=⟨false,r,out ++ [(⟨kindOfW t.text,numV u.text,⟨#[]⟩⟩,t.pos)]⟩:=by
 rw [pPart.eq_def]
 simp only
 rw [if_neg (by simp [isSym,hk]),if_pos hk,if_pos hn,if_pos hu]
theorem part_leaf {n:Nd} (h:LeafGood n) {ts:List Tk} (ht:ts.map tk2=leafK n) (f:Nat) (rest:List Tk) (out:Rd):∃ o:Rd,o.map Prod.fst=[n]∧1≤ts.length∧pPart (f+1) (ts ++ rest) out=⟨false,rest,out ++ o⟩:=by
 unfold leafK at ht
 rcases h.cases with ⟨h1,h2,h3,h4⟩|⟨h1,h2,h3,h4⟩|⟨h1,h2,h3,h4⟩
 ·rw [if_pos h1] at ht
  obtain ⟨t,rfl,e1,e2⟩:=map1 ht
  simp only at e1 e2
  refine ⟨[(nodeOf t.text,t.pos)],?_,by simp,?_⟩
  ·rw [h2]
   simp only [List.map_cons,List.map_nil,nodeOf,e2,h4]
   rfl
  ·exact part_word e1 (by rw [e2,h4];decide)
 ·have hk:¬ n.kind=17:=by omega
  rw [if_neg hk,if_pos h1] at ht
  obtain ⟨t,u,rfl,⟨e1,e2⟩,e3,e4⟩:=map2 ht
  simp only at e1 e2 e3 e4
  have hw:=(word_ok (k:=n.kind) (by omega) (by omega)).2
  refine ⟨[(⟨kindOfW t.text,numV u.text,⟨#[]⟩⟩,t.pos)],?_,by simp,?_⟩
  ·simp only [List.map_cons,List.map_nil]
   rw [e2,e4,hw,(num_ok h3 h4).2,← h2]
  ·exact part_num e1 (by rw [e2,hw];exact h1) e3
 ·have hk:¬ n.kind=17:=by omega
  rw [if_neg hk,if_neg h3] at ht
  obtain ⟨t,rfl,e1,e2⟩:=map1 ht
  simp only at e1 e2
  have hw:=(word_ok (k:=n.kind) (by omega) (by omega)).2
  refine ⟨[(nodeOf t.text,t.pos)],?_,by simp,?_⟩
  ·rw [h4]
   simp only [List.map_cons,List.map_nil,nodeOf,e2,hw]
   rw [if_neg (by omega)]
  ·exact part_word e1 (by rw [e2,hw];exact h3)
def TOk (full:Bool) (t:Tr):Prop:=∀ (ts:List Tk),ts.map tk2=tkT full t → ∀ (f:Nat) (rest:List Tk) (out:Rd),ts.length≤f → isSym rest 42=false →
 ∃ (o:Rd) (k:Nat),o.map Prod.fst=t.nodes∧k+1≤ts.length∧pTerm f (ts ++ rest) out=pTerms (f - k) rest (out ++ o)
def ROk (full:Bool) (t:Tr):Prop:=∀ (ts:List Tk),ts.map tk2=tkT full t → ∀ (f:Nat) (rest:List Tk) (out:Rd),ts.length≤f →
 ∃ (o:Rd) (k:Nat),o.map Prod.fst=t.nodes∧k+1≤ts.length∧pRow f (ts ++ rest) out=pRows (f - k) rest (out ++ o)
theorem part_brk {full:Bool} {t:Tr} (hT:TOk full t) (ts:List Tk) (ht:ts.map tk2=brkK (tkT full t) true) (f:Nat) (rest:List Tk) (out:Rd) (hf:ts.length≤f) :
  ∃ o:Rd,o.map Prod.fst=t.nodes∧1≤ts.length∧pPart f (ts ++ rest) out=⟨false,rest,out ++ o⟩:=by
 unfold brkK at ht
 rw [if_pos rfl] at ht
 match ts,ht with
 | u :: ts',ht =>
  rw [List.map_cons,List.cons.injEq] at ht
  obtain ⟨hu,ht⟩:=ht
  obtain ⟨t1,t2,e,e1,e2⟩:=List.map_eq_append_iff.1 ht
  obtain ⟨v,rfl,e3,e4⟩:=map1 e2
  subst e
  simp only [List.length_cons,List.length_append,List.length_nil] at hf
  obtain ⟨g,rfl⟩:∃ g,f=g+1:=⟨f - 1,by omega⟩
  have hv:∀ r:List Tk,isSym (v :: r) 41=true:=fun r=>by simp only at e3 e4;simp [isSym,e3,e4]
  have hv2:∀ (r:List Tk) (b:UInt8),b ≠ 41 → isSym (v :: r) b=false:=fun r b hb=>by
   simp only at e3 e4
   simp only [isSym,e3,e4,Bool.and_eq_false_iff,decide_eq_false_iff_not]
   right
   intro hh
   apply hb
   have:=congrArg (fun z:ByteArray=>z.data.toList) hh
   simpa using this.symm
  obtain ⟨o,k,h1,h2,h3⟩:=hT t1 e1 g (v :: rest) out (by omega) (hv2 rest 42 (by decide))
  refine ⟨o,h1,by simp,?_⟩
  have hs:pTerm g (t1 ++ v :: rest) out=⟨false,v :: rest,out ++ o⟩:=by rw [h3,terms_stop _ _ _ (hv2 rest 59 (by decide))]
  rw [show (u :: (t1 ++ [v])) ++ rest=u :: (t1 ++ v :: rest) by simp]
  exact part_par (by rw [isSym_tk hu];decide) hs (hv rest)
theorem row_brk {full:Bool} {t:Tr} (hT:TOk full t) (c:Bool) (hR:c=false → ROk full t) (ts:List Tk) (ht:ts.map tk2=brkK (tkT full t) c) (f:Nat) (rest:List Tk) (out:Rd) (hf:ts.length≤f) :
  ∃ (o:Rd) (k:Nat),o.map Prod.fst=t.nodes∧k+1≤ts.length∧pRow f (ts ++ rest) out=pRows (f - k) rest (out ++ o):=by
 cases c with
 | false=>exact hR rfl ts ht f rest out hf
 | true =>
  obtain ⟨o,h1,h2,h3⟩:=part_brk hT ts ht f rest out hf
  exact ⟨o,0,h1,by omega,row_of h3⟩
theorem isPar_leaf {t:Tr} (h1:t.isSeq=false) (h2:t.isPar=false):∃ n,t=.leaf n:=by
 cases t with
 | leaf n=>exact ⟨n,rfl⟩
 | seq a b=>cases h1
 | par a b=>cases h2
theorem tree_ok (full:Bool):∀ (t:Tr),t.Good → TOk full t∧(t.isSeq=false → ROk full t)
 | .leaf n,h=>by
  have hR:ROk full (.leaf n):=fun ts ht f rest out hf=>by
   have hl:1≤ts.length:=by
    have:=congrArg List.length ht
    simp only [List.length_map,tkT,leafK] at this
    split at this
    ·simp at this;omega
    ·split at this <;> (simp at this;omega)
   obtain ⟨g,rfl⟩:∃ g,f=g+1:=⟨f - 1,by omega⟩
   obtain ⟨o,h1,_,h3⟩:=part_leaf h ht g rest out
   exact ⟨o,0,h1,by omega,row_of h3⟩
  refine ⟨fun ts ht f rest out hf hr=>?_,fun _=>hR⟩
  obtain ⟨o,k,h1,h2,h3⟩:=hR ts ht f rest out hf
  exact ⟨o,0,h1,by omega,term_of (by rw [h3,rows_stop _ _ _ hr])⟩
 | .par a b,h=>by
  obtain ⟨hTa,hRa⟩:=tree_ok full a h.1
  obtain ⟨hTb,hRb⟩:=tree_ok full b h.2
  have hR:ROk full (.par a b):=fun ts ht f rest out hf=>by
   rw [tkT] at ht
   obtain ⟨ta,t2,e,ea,e2⟩:=List.map_eq_append_iff.1 ht
   match t2,e2 with
   | u :: tb,e2 =>
    rw [List.map_cons,List.cons.injEq] at e2
    obtain ⟨hu,eb⟩:=e2
    subst e
    simp only [List.length_append,List.length_cons] at hf
    obtain ⟨oa,k,h1,h2,h3⟩:=row_brk hTa _ (fun hc=>hRa (by simp only [Bool.or_eq_false_iff] at hc;exact hc.1)) ta ea f (u :: (tb ++ rest)) out (by omega)
    obtain ⟨g,hg⟩:∃ g,f - k=g+1:=⟨f - k - 1,by omega⟩
    have hpb:∃ ob:Rd,ob.map Prod.fst=b.nodes∧1≤tb.length∧pPart g (tb ++ rest) (out ++ oa)=⟨false,rest,out ++ oa ++ ob⟩:=by
     cases hc:(b.isSeq || b.isPar) with
     | true=>rw [hc] at eb;exact part_brk hTb tb eb g rest _ (by omega)
     | false =>
      rw [hc] at eb
      simp only [Bool.or_eq_false_iff] at hc
      obtain ⟨n,rfl⟩:=isPar_leaf hc.1 hc.2
      have hl:1≤tb.length:=by
       have:=congrArg List.length eb
       simp only [List.length_map,brkK,tkT,leafK] at this
       split at this
       ·simp at this;omega
       ·split at this
        ·simp at this;omega
        ·split at this <;> (simp at this;omega)
      obtain ⟨g',rfl⟩:∃ g',g=g'+1:=⟨g - 1,by omega⟩
      exact part_leaf h.2 eb g' rest _
    obtain ⟨ob,h4,h5,h6⟩:=hpb
    refine ⟨oa ++ ob ++ [(⟨16,0,⟨#[]⟩⟩,u.pos)],k+1,?_,by simp;omega,?_⟩
    ·simp [h1,h4,Tr.nodes]
    ·rw [show (ta ++ u :: tb) ++ rest=ta ++ u :: (tb ++ rest) by simp,h3,hg,rows_go (by rw [isSym_tk hu];decide) h6]
     rw [show f - (k+1)=g by omega]
     simp
  refine ⟨fun ts ht f rest out hf hr=>?_,fun _=>hR⟩
  obtain ⟨o,k,h1,h2,h3⟩:=hR ts ht f rest out hf
  exact ⟨o,0,h1,by omega,term_of (by rw [h3,rows_stop _ _ _ hr])⟩
 | .seq a b,h=>by
  obtain ⟨hTa,hRa⟩:=tree_ok full a h.1
  obtain ⟨hTb,hRb⟩:=tree_ok full b h.2
  refine ⟨fun ts ht f rest out hf hr=>?_,fun hc=>by cases hc⟩
  rw [tkT] at ht
  obtain ⟨ta,t2,e,ea,e2⟩:=List.map_eq_append_iff.1 ht
  match t2,e2 with
  | u :: tb,e2 =>
   rw [List.map_cons,List.cons.injEq] at e2
   obtain ⟨hu,eb⟩:=e2
   subst e
   simp only [List.length_append,List.length_cons] at hf
   have hu42:isSym (u :: (tb ++ rest)) 42=false:=by rw [isSym_tk hu];decide
   have hta:∃ (oa:Rd) (k:Nat),oa.map Prod.fst=a.nodes∧k+1≤ta.length∧pTerm f (ta ++ u :: (tb ++ rest)) out=pTerms (f - k) (u :: (tb ++ rest)) (out ++ oa):=by
    cases hc:(full && (a.isSeq || a.isPar)) with
    | false=>rw [hc] at ea;exact hTa ta ea f _ out (by omega) hu42
    | true =>
     rw [hc] at ea
     obtain ⟨o,h1,h2,h3⟩:=part_brk hTa ta ea f (u :: (tb ++ rest)) out (by omega)
     exact ⟨o,0,h1,by omega,term_of (by rw [row_of h3,rows_stop _ _ _ hu42])⟩
   obtain ⟨oa,k,h1,h2,h3⟩:=hta
   obtain ⟨g,hg⟩:∃ g,f - k=g+1:=⟨f - k - 1,by omega⟩
   obtain ⟨ob,k2,h4,h5,h6⟩:=row_brk hTb _ (fun hc=>hRb (by simp only [Bool.or_eq_false_iff] at hc;exact hc.1)) tb eb g rest (out ++ oa) (by omega)
   refine ⟨oa ++ ob ++ [(⟨15,0,⟨#[]⟩⟩,u.pos)],k+1,?_,by simp;omega,?_⟩
   ·simp [h1,h4,Tr.nodes]
   ·rw [show (ta ++ u :: tb) ++ rest=ta ++ u :: (tb ++ rest) by simp,h3,hg,terms_go (by rw [isSym_tk hu];decide) (by rw [h6,rows_stop _ _ _ hr])]
    rw [show f - (k+1)=g by omega]
    simp
end Go.Proofs.YtbljmfcifljkaaaGreatDoor
/-
  A printed term is read back as it was. No program in sight. Own work.
-/
namespace Go.Proofs.YtbljmfcifljkaaaGreatDoor
def flatT (ts:List Tr):List Nd:=(ts.reverse.map Tr.nodes).flatten
theorem flatT_cons (t:Tr) (ts:List Tr):flatT (t :: ts)=flatT ts ++ t.nodes:=by simp [flatT]
theorem leafIn_good {L:List Df} (hN:∀ d ∈ L,nameB d.name=true) {n:Nd} {x:W2} (h:leafIn L n=some x):LeafGood n:=by
 unfold leafIn at h
 split at h
 ·rename_i hk
  split at h
  ·rename_i hv
   cases hf:findD L n.name with
   | none=>rw [hf] at h;cases h
   | some d =>
    unfold findD at hf
    have h1:=List.mem_of_find?_eq_some hf
    have h2:=List.find?_some hf
    simp only [decide_eq_true_eq] at h2
    exact .inl ⟨hk,hv,by rw [← h2];exact hN d h1⟩
  ·cases h
 ·split at h
  ·rename_i hl;exact .inr hl
  ·cases h
theorem op_eq {n:Nd} (h:n.value=0∧n.name=ByteArray.empty):n=⟨n.kind,0,⟨#[]⟩⟩:=by
 obtain ⟨k,v,nm⟩:=n
 simp only at h
 obtain ⟨rfl,rfl⟩:=h
 rfl
theorem trees_back {L:List Df} (hN:∀ d ∈ L,nameB d.name=true):∀ (ns:List Nd) (st st':List W2) (ts:List Tr),typedGo (leafIn L) ns st=some st' → ts.length=st.length → (∀ t ∈ ts,t.Good) →
  ∃ ts',treesGo ns ts=some ts'∧ts'.length=st'.length∧(∀ t ∈ ts',t.Good)∧flatT ts'=flatT ts ++ ns
 | [],st,st',ts,h,hl,ho=>by
  simp only [typedGo,Option.some.injEq] at h
  subst h
  exact ⟨ts,rfl,hl,ho,by simp⟩
 | n :: r,st,st',ts,h,hl,ho=>by
  by_cases hk:n.kind=15∨n.kind=16
  ·unfold typedGo at h
   rw [if_pos hk] at h
   split at h
   ·rename_i hop
    have hn:=op_eq hop
    split at h
    ·rename_i b a st0
     split at h
     ·rename_i x hx
      match ts,hl,ho with
      | tb :: ta :: ts0,hl,ho =>
       have hta:ta.Good:=ho ta (by simp)
       have htb:tb.Good:=ho tb (by simp)
       rcases hk with hk|hk
       ·rw [treesGo_seq hk]
        obtain ⟨ts',h1,h2,h3,h4⟩:=trees_back hN r _ st' (.seq ta tb :: ts0) h (by simp at hl ⊢;omega) (by
         intro t ht
         rcases List.mem_cons.1 ht with rfl|ht
         ·exact ⟨hta,htb⟩
         ·exact ho t (by simp [ht]))
        refine ⟨ts',h1,h2,h3,?_⟩
        rw [h4,flatT_cons,flatT_cons,flatT_cons,Tr.nodes,hn,hk]
        simp
       ·rw [treesGo_par hk]
        obtain ⟨ts',h1,h2,h3,h4⟩:=trees_back hN r _ st' (.par ta tb :: ts0) h (by simp at hl ⊢;omega) (by
         intro t ht
         rcases List.mem_cons.1 ht with rfl|ht
         ·exact ⟨hta,htb⟩
         ·exact ho t (by simp [ht]))
        refine ⟨ts',h1,h2,h3,?_⟩
        rw [h4,flatT_cons,flatT_cons,flatT_cons,Tr.nodes,hn,hk]
        simp
     ·cases h
    ·cases h
   ·cases h
  ·unfold typedGo at h
   rw [if_neg hk] at h
   split at h
   ·rename_i x hx
    rw [treesGo_leaf hk]
    obtain ⟨ts',h1,h2,h3,h4⟩:=trees_back hN r _ st' (.leaf n :: ts) h (by simp;omega) (by
     intro t ht
     rcases List.mem_cons.1 ht with rfl|ht
     ·exact leafIn_good hN hx
     ·exact ho t ht)
    refine ⟨ts',h1,h2,h3,?_⟩
    rw [h4,flatT_cons,Tr.nodes]
    simp
   ·cases h
theorem chk_none {leaf:Nd → Option W2}:∀ (r:Rd) (i:Nat) (st st':List W2),typedGo leaf (r.map Prod.fst) st=some st' → i+r.length≤400 → chkGo leaf r i st=none
 | [],_,_,_,_,_=>rfl
 | x :: r,i,st,st',h,hl=>by
  have hi:¬ 400≤i:=by simp at hl;omega
  rw [List.map_cons] at h
  unfold typedGo at h
  by_cases hk:x.1.kind=15∨x.1.kind=16
  ·rw [if_pos hk] at h
   split at h
   ·split at h
    ·split at h
     ·rename_i w hj
      rw [chk_join hi hk hj]
      exact chk_none r (i+1) _ st' h (by simp at hl;omega)
     ·cases h
    ·cases h
   ·cases h
  ·rw [if_neg hk] at h
   split at h
   ·rename_i w hw
    rw [chk_leaf hi hk hw]
    exact chk_none r (i+1) _ st' h (by simp at hl;omega)
   ·cases h
theorem read_back (full:Bool) {L:List Df} {ns:List Nd} {x:W2} (hg:good L=true) (h:typedL (leafIn L) ns=some x) :
  ∃ ts,tokL (prT full (treeL ns))=.ok ts∧wholeL L (prT full (treeL ns)).size ts=.ok ns:=by
 have hN:=good_names hg
 have h8:∀ d ∈ L,d.name.size≤8:=fun d hd=>nameB_size (hN d hd)
 obtain ⟨t,ht,hok,hct⟩:=tree_of_typed h8 h
 have hlen:=typedL_len h
 rw [treeL_eq ht]
 unfold typedL at h
 split at h
 ·split at h
  ·rename_i w hy
   obtain ⟨ts',h1,h2,h3,h4⟩:=trees_back hN ns [] _ [] hy rfl (by simp)
   rw [ht] at h1
   obtain rfl:=Option.some.inj h1
   have hgt:=h3 t (by simp)
   have hns:t.nodes=ns:=by simpa [flatT] using h4
   have hsz:=prT_size full t hok
   have hlx:=lex_tree full t hgt [] edge_nil
   rw [List.append_nil,lexL] at hlx
   simp only [Option.map_some,List.append_nil] at hlx
   obtain ⟨ts,e1,e2⟩:=tok_lex (prT full t) _ 0 rfl _ (by rw [List.drop_zero];exact hlx)
   refine ⟨ts,?_,?_⟩
   ·unfold tokL
    rw [if_neg (by omega)]
    exact e1
   ·obtain ⟨o,k,g1,g2,g3⟩:=(tree_ok full t hgt).1 ts e2 ts.length [] [] (Nat.le_refl _) rfl
    rw [List.append_nil,List.nil_append,terms_stop _ _ _ rfl] at g3
    unfold wholeL
    rw [g3]
    simp only
    rw [if_neg (by simp)]
    have hc:chkGo (leafIn L) o 0 []=none:=chk_none o 0 [] _ (by rw [g1,hns];exact hy) (by
     have:=congrArg List.length g1
     rw [List.length_map,hns] at this
     omega)
    rw [hc]
    simp only
    rw [g1,hns]
  ·cases h
 ·cases h
end Go.Proofs.YtbljmfcifljkaaaGreatDoor
