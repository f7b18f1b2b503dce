/-
  Tokens of a list of bytes, without their places; tokens of a printed tree. No program in sight. Own work.
-/
import Derived.Test.YtikgblkfmpecfaaGreatDoorKAA
import Derived.Test.YtikgblkfmpecfaaGreatDoorKT
import Derived.Test.YtikgblkfmpecfaaGreatDoorKLW
set_option linter.all false
set_option maxRecDepth 100000
set_option maxHeartbeats 8000000
namespace Go.Proofs.YtikgblkfmpecfaaGreatDoor
def spB (b:UInt8):Bool:=b == 32 || b == 10
def lexL:List UInt8 → Option (List (Int × ByteArray))
 | []=>some []
 | b :: r =>
  if spB b then lexL r
  else if lowB b then (lexL (r.dropWhile lodB)).map ((1,⟨(b :: r.takeWhile lodB).toArray⟩) :: ·)
  else if digB b then
   (if (r.takeWhile digB).length+1 > 6∨((r.takeWhile digB).length+1 > 1∧b=48) then none
    else (lexL (r.dropWhile digB)).map ((2,⟨(b :: r.takeWhile digB).toArray⟩) :: ·))
  else if symB b then (lexL r).map ((3,⟨#[b]⟩) :: ·)
  else none
 termination_by l=>l.length
 decreasing_by
  all_goals simp_wf
  ·have:=(List.dropWhile_sublist lodB (l:=r)).length_le;omega
  ·have:=(List.dropWhile_sublist digB (l:=r)).length_le;omega
def tk2 (t:Tk):Int × ByteArray:=(t.kind,t.text)
theorem cut_list (s:ByteArray) (i j:Nat) (h:i≤j):s.extract i j=⟨((s.data.toList.drop i).take (j - i)).toArray⟩:=by
 apply ByteArray.ext
 apply Array.toList_inj.1
 simp [ByteArray.extract,ByteArray.copySlice,List.drop_take]
theorem take_while (p:UInt8 → Bool) (l:List UInt8):l.take (l.takeWhile p).length=l.takeWhile p:=by
 induction l with
 | nil=>rfl
 | cons b r ih =>
  rw [List.takeWhile_cons]
  split
  ·simp [ih]
  ·rfl
theorem drop_while (p:UInt8 → Bool) (l:List UInt8):l.drop (l.takeWhile p).length=l.dropWhile p:=by
 induction l with
 | nil=>rfl
 | cons b r ih =>
  rw [List.takeWhile_cons,List.dropWhile_cons]
  split
  ·simp [ih]
  ·rfl
theorem tok_lex (s:ByteArray):∀ (n i:Nat),s.size - i=n → ∀ l,lexL (s.data.toList.drop i)=some l → ∃ ts,tokFrom s i=.ok ts∧ts.map tk2=l:=by
 intro n
 induction n using Nat.strongRecOn with
 | _ n ih =>
  intro i hn l h
  by_cases hi:i<s.size
  ·have hd:s.data.toList.drop i=s[i] :: s.data.toList.drop (i+1):=List.drop_eq_getElem_cons (by simpa using hi)
   rw [hd,lexL] at h
   rw [tokFrom,dif_pos hi]
   by_cases h1:spB s[i]=true
   ·rw [if_pos h1] at h
    rw [if_pos (by simpa [spB] using h1)]
    exact ih (s.size - (i+1)) (by omega) (i+1) rfl l h
   rw [if_neg h1] at h
   rw [if_neg (by simpa [spB] using h1)]
   by_cases h2:lowB s[i]=true
   ·rw [if_pos h2] at h ⊢
    have he:endOf lodB s (i+1)=i+1+((s.data.toList.drop (i+1)).takeWhile lodB).length:=rfl
    have hle:=(endOf_le (p:=lodB) (s:=s) (i:=i+1) hi)
    rw [← drop_while,List.drop_drop,← he] at h
    cases hr:lexL (s.data.toList.drop (endOf lodB s (i+1))) with
    | none=>rw [hr] at h;cases h
    | some l' =>
     rw [hr] at h
     obtain ⟨ts,e1,e2⟩:=ih (s.size - endOf lodB s (i+1)) (by omega) _ rfl l' hr
     rw [e1]
     refine ⟨_,rfl,?_⟩
     simp only [Option.map_some,Option.some.injEq] at h
     rw [← h,List.map_cons,e2]
     congr 1
     simp only [tk2,cutB]
     rw [cut_list _ _ _ (by omega),hd,he,show i+1+((s.data.toList.drop (i+1)).takeWhile lodB).length - i=((s.data.toList.drop (i+1)).takeWhile lodB).length+1 by omega,List.take_succ_cons,take_while]
   rw [if_neg h2] at h ⊢
   by_cases h3:digB s[i]=true
   ·rw [if_pos h3] at h ⊢
    have he:endOf digB s (i+1)=i+1+((s.data.toList.drop (i+1)).takeWhile digB).length:=rfl
    have hle:=(endOf_le (p:=digB) (s:=s) (i:=i+1) hi)
    split at h
    ·cases h
    ·rename_i h4
     rw [if_neg (by rw [he,show i+1+((s.data.toList.drop (i+1)).takeWhile digB).length - i=((s.data.toList.drop (i+1)).takeWhile digB).length+1 by omega];exact h4)]
     rw [← drop_while,List.drop_drop,← he] at h
     cases hr:lexL (s.data.toList.drop (endOf digB s (i+1))) with
     | none=>rw [hr] at h;cases h
     | some l' =>
      rw [hr] at h
      obtain ⟨ts,e1,e2⟩:=ih (s.size - endOf digB s (i+1)) (by omega) _ rfl l' hr
      rw [e1]
      refine ⟨_,rfl,?_⟩
      simp only [Option.map_some,Option.some.injEq] at h
      rw [← h,List.map_cons,e2]
      congr 1
      simp only [tk2,cutB]
      rw [cut_list _ _ _ (by omega),hd,he,show i+1+((s.data.toList.drop (i+1)).takeWhile digB).length - i=((s.data.toList.drop (i+1)).takeWhile digB).length+1 by omega,List.take_succ_cons,take_while]
   rw [if_neg h3] at h ⊢
   by_cases h4:symB s[i]=true
   ·rw [if_pos h4] at h ⊢
    cases hr:lexL (s.data.toList.drop (i+1)) with
    | none=>rw [hr] at h;cases h
    | some l' =>
     rw [hr] at h
     obtain ⟨ts,e1,e2⟩:=ih (s.size - (i+1)) (by omega) _ rfl l' hr
     rw [e1]
     refine ⟨_,rfl,?_⟩
     simp only [Option.map_some,Option.some.injEq] at h
     rw [← h,List.map_cons,e2]
     congr 1
     simp only [tk2,cutB]
     rw [cut_list _ _ _ (by omega),hd,show i+1 - i=1 by omega]
     rfl
   ·rw [if_neg h4] at h;cases h
  ·rw [List.drop_eq_nil_of_le (by simpa using hi),lexL] at h
   rw [tokFrom,dif_neg hi]
   exact ⟨[],rfl,by simpa using h⟩
def Edge (r:List UInt8):Prop:=∀ b r',r=b :: r' → lodB b=false
theorem edge_nil:Edge []:=fun _ _ h=>by cases h
theorem edge_cons {b:UInt8} {r:List UInt8} (h:lodB b=false):Edge (b :: r):=fun c r' e=>by cases e;exact h
theorem while_app {p:UInt8 → Bool}:∀ {w r:List UInt8},(∀ b ∈ w,p b=true) → (∀ b r',r=b :: r' → p b=false) → (w ++ r).takeWhile p=w∧(w ++ r).dropWhile p=r
 | [],[],_,_=>⟨rfl,rfl⟩
 | [],b :: r,_,h=>by simp [h b r rfl]
 | c :: w,r,hw,h=>by
  obtain ⟨h1,h2⟩:=while_app (w:=w) (fun b hb=>hw b (List.mem_cons_of_mem _ hb)) h
  have hc:=hw c (List.mem_cons_self ..)
  simp [hc,h1,h2]
theorem low_nosp {b:UInt8} (h:lowB b=true):spB b=false:=by
 simp only [lowB,Bool.and_eq_true,decide_eq_true_eq] at h
 simp only [spB,Bool.or_eq_false_iff,beq_eq_false_iff_ne]
 constructor <;> (rintro rfl;revert h;decide)
theorem dig_nosp {b:UInt8} (h:digB b=true):spB b=false∧lowB b=false:=by
 simp only [digB,Bool.and_eq_true,decide_eq_true_eq] at h
 refine ⟨?_,?_⟩
 ·simp only [spB,Bool.or_eq_false_iff,beq_eq_false_iff_ne]
  constructor <;> (rintro rfl;revert h;decide)
 ·simp only [lowB,Bool.and_eq_false_iff,decide_eq_false_iff_not]
  left;omega
theorem lex_word {b:UInt8} {w r:List UInt8} (hb:lowB b=true) (hw:∀ c ∈ w,lodB c=true) (he:Edge r):lexL (b :: w ++ r)=(lexL r).map ((1,⟨(b :: w).toArray⟩) :: ·):=by
 obtain ⟨h1,h2⟩:=while_app (p:=lodB) hw he
 rw [List.cons_append,lexL,if_neg (by rw [low_nosp hb];simp),if_pos hb,h1,h2]
theorem lex_num {b:UInt8} {w r:List UInt8} (hb:digB b=true) (hw:∀ c ∈ w,digB c=true) (he:Edge r) (hl:w.length+1≤6) (h0:w=[]∨b ≠ 48):lexL (b :: w ++ r)=(lexL r).map ((2,⟨(b :: w).toArray⟩) :: ·):=by
 obtain ⟨h1,h2⟩:=while_app (p:=digB) hw (fun c r' e=>by
  have:=he c r' e
  simp only [lodB,Bool.or_eq_false_iff] at this
  exact this.2)
 obtain ⟨g1,g2⟩:=dig_nosp hb
 rw [List.cons_append,lexL,if_neg (by rw [g1];simp),if_neg (by rw [g2];simp),if_pos hb,h1,h2,if_neg]
 rintro (h|⟨h,h'⟩)
 ·omega
 ·rcases h0 with rfl|h0
  ·simp at h
  ·exact h0 h'
theorem lex_sp (r:List UInt8):lexL (32 :: r)=lexL r:=by rw [lexL,if_pos (by decide)]
theorem lex_sym {b:UInt8} (r:List UInt8) (h1:spB b=false) (h2:lowB b=false) (h3:digB b=false) (h4:symB b=true):lexL (b :: r)=(lexL r).map ((3,⟨#[b]⟩) :: ·):=by
 rw [lexL,if_neg (by rw [h1];simp),if_neg (by rw [h2];simp),if_neg (by rw [h3];simp),if_pos h4]
end Go.Proofs.YtikgblkfmpecfaaGreatDoor
