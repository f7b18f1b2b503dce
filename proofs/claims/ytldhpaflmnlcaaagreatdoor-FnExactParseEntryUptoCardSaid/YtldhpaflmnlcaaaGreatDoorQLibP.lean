/-
  Libraries read from their texts. No program in sight. Own work.
-/
import Derived.Test.YtldhpaflmnlcaaaGreatDoorQAA
import Derived.Lib.IndexMore
set_option linter.all false
namespace Go.Proofs.YtldhpaflmnlcaaaGreatDoor
open Go.RowKit
def splitB (b:UInt8):List UInt8 → List UInt8 → List (List UInt8)
 | acc,[]=>[acc]
 | acc,c :: r=>if c = b then acc :: splitB b [] r else splitB b (acc ++ [c]) r
theorem splitB_ne (b:UInt8):∀ (l acc:List UInt8),splitB b acc l ≠ []
 | [],acc=>by simp [splitB]
 | c :: r,acc=>by
  unfold splitB
  split
  ·simp
  ·exact splitB_ne b r _
theorem splitB_len (b:UInt8):∀ (l acc:List UInt8),(splitB b acc l).length≤l.length+1
 | [],acc=>by simp [splitB]
 | c :: r,acc=>by
  unfold splitB
  split
  ·have:=splitB_len b r [];simp;omega
  ·have:=splitB_len b r (acc ++ [c]);simp;omega
theorem splitB_none (b:UInt8):∀ (l acc:List UInt8),b ∉ l → splitB b acc l = [acc ++ l]
 | [],acc,_=>by simp [splitB]
 | c :: r,acc,h=>by
  unfold splitB
  rw [if_neg (by rintro rfl;simp at h),splitB_none b r _ (by simp at h;exact h.2)]
  simp
theorem splitB_some (b:UInt8):∀ (l x r acc:List UInt8),l = x ++ b :: r → b ∉ x → splitB b acc l = (acc ++ x) :: splitB b [] r
 | l,[],r,acc,h,_=>by subst h;simp [splitB]
 | l,c :: x,r,acc,h,hx=>by
  subst h
  simp only [List.cons_append]
  conv=>lhs;unfold splitB
  rw [if_neg (by rintro rfl;simp at hx),splitB_some b _ x r _ rfl (by simp at hx;exact hx.2)]
  simp
theorem index_one (b:UInt8):∀ l:List UInt8,(b ∉ l∧Lib.index l [b] = -1)∨∃ x r,l = x ++ b :: r∧b ∉ x∧Lib.index l [b] = (x.length:Int)
 | []=>.inl ⟨by simp,by simp [Lib.index]⟩
 | c :: l=>by
  unfold Lib.index
  by_cases h:b = c
  ·subst h
   refine .inr ⟨[],l,rfl,by simp,?_⟩
   simp
  ·have hp:([b]:List UInt8).isPrefixOf (c :: l) = false:=by simp [List.isPrefixOf,h]
   rw [hp]
   rcases index_one b l with ⟨h1,h2⟩|⟨x,r,h1,h2,h3⟩
   ·exact .inl ⟨by simp [h,h1],by rw [h2];rfl⟩
   ·refine .inr ⟨c :: x,r,by rw [h1];rfl,by simp [h,h2],?_⟩
    rw [h3]
    have:((x.length:Int) == -1) = false:=by rw [beq_eq_false_iff_ne];omega
    rw [this]
    simp
theorem cut_split (b:UInt8) (l:List UInt8):(Lib.cut l [b] = (l,[],false)∧b ∉ l)∨∃ x r,l = x ++ b :: r∧b ∉ x∧Lib.cut l [b] = (x,r,true):=by
 rcases index_one b l with ⟨h1,h2⟩|⟨x,r,h1,h2,h3⟩
 ·refine .inl ⟨?_,h1⟩
  unfold Lib.cut
  rw [h2,if_neg (by omega)]
 ·refine .inr ⟨x,r,h1,h2,?_⟩
  unfold Lib.cut
  rw [h3,if_pos (by omega)]
  subst h1
  have e1:((x.length:Int)).toNat = x.length:=by omega
  rw [e1]
  simp
def bytesOf (l:List UInt8):ByteArray:=⟨l.toArray⟩
def libGo:List Df → List (List UInt8) → Option (List Df)
 | _,[]=>none
 | L,[x]=>if x = [] then some L else none
 | L,x :: y :: r=>if L.length = 12 then none else (match defL L (bytesOf x) with
  | none=>none
  | some d=>libGo (L ++ [d]) (y :: r))
def libL (s:ByteArray):Option (List Df):=if s.size > 40000 then none else libGo [] (splitB 10 [] s.data.toList)
def foldL:List Df → List (List UInt8) → Option (List Df)
 | L,[]=>some L
 | L,x :: r=>match defL L (bytesOf x) with
  | none=>none
  | some d=>foldL (L ++ [d]) r
theorem libGo_fold:∀ (ls:List (List UInt8)) (L:List Df),ls ≠ [] → L.length≤12 → libGo L ls = if ls.getLast? = some []∧ls.length+L.length≤13 then foldL L ls.dropLast else none
 | [],L,h,_=>absurd rfl h
 | [x],L,_,hl=>by
  simp only [libGo,List.getLast?_singleton,Option.some.injEq,List.dropLast_singleton,foldL,List.length_singleton]
  by_cases hx:x = []
  ·rw [if_pos hx,if_pos ⟨hx,by omega⟩]
  ·rw [if_neg hx,if_neg (fun h=>hx h.1)]
 | x :: y :: r,L,_,hl=>by
  simp only [libGo]
  by_cases h12:L.length = 12
  ·rw [if_pos h12,if_neg (by simp;omega)]
  rw [if_neg h12]
  have hd:(x :: y :: r).dropLast = x :: (y :: r).dropLast:=rfl
  have hg:(x :: y :: r).getLast? = (y :: r).getLast?:=by simp [List.getLast?_cons_cons]
  rw [hd,hg]
  simp only [foldL]
  cases hx:defL L (bytesOf x) with
  | none=>simp
  | some d =>
   simp only
   rw [libGo_fold (y :: r) (L ++ [d]) (by simp) (by simp;omega)]
   congr 1
   simp only [List.length_append,List.length_cons,List.length_nil,eq_iff_iff,and_congr_right_iff]
   intro _
   omega
theorem libGo_good:∀ (ls:List (List UInt8)) (L R:List Df),good L = true → libGo L ls = some R → good R = true
 | [],L,R,_,h=>by cases h
 | [x],L,R,hg,h=>by
  simp only [libGo] at h
  split at h
  ·obtain rfl:=Option.some.inj h;exact hg
  ·cases h
 | x :: y :: r,L,R,hg,h=>by
  simp only [libGo] at h
  split at h
  ·cases h
  ·rename_i h12
   cases hd:defL L (bytesOf x) with
   | none=>rw [hd] at h;cases h
   | some d =>
    rw [hd] at h
    have:=good_len hg
    exact libGo_good (y :: r) (L ++ [d]) R (defL_good hg (by omega) hd) h
end Go.Proofs.YtldhpaflmnlcaaaGreatDoor
