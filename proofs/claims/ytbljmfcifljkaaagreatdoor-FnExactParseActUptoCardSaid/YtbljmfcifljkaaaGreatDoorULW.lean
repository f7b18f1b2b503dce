/-
  Libraries read from their texts. No program in sight. Own work.
-/
import Derived.Test.YtbljmfcifljkaaaGreatDoorUAA
import Derived.Lib.IndexMore
import Derived.Test.YtbljmfcifljkaaaGreatDoorUT
set_option linter.all false
set_option maxRecDepth 100000
set_option maxHeartbeats 8000000
namespace Go.Proofs.YtbljmfcifljkaaaGreatDoor
open Go.RowKit
def splitB (b:UInt8):List UInt8 → List UInt8 → List (List UInt8)
 | acc,[]=>[acc]
 | acc,c :: r=>if c=b then acc :: splitB b [] r else splitB b (acc ++ [c]) r
theorem splitB_ne (b:UInt8):∀ (l acc:List UInt8),splitB b acc l ≠ []
 | [],acc=>by simp [splitB]
 | c :: r,acc=>by
  unfold splitB
  split
  ·simp
  ·exact splitB_ne b r _
theorem splitB_len (b:UInt8):∀ (l acc:List UInt8),(splitB b acc l).length≤l.length+1
 | [],acc=>by simp [splitB]
 | c :: r,acc=>by
  unfold splitB
  split
  ·have:=splitB_len b r [];simp;omega
  ·have:=splitB_len b r (acc ++ [c]);simp;omega
theorem splitB_none (b:UInt8):∀ (l acc:List UInt8),b ∉ l → splitB b acc l=[acc ++ l]
 | [],acc,_=>by simp [splitB]
 | c :: r,acc,h=>by
  unfold splitB
  rw [if_neg (by rintro rfl;simp at h),splitB_none b r _ (by simp at h;exact h.2)]
  simp
theorem splitB_some (b:UInt8):∀ (l x r acc:List UInt8),l=x ++ b :: r → b ∉ x → splitB b acc l=(acc ++ x) :: splitB b [] r
 | l,[],r,acc,h,_=>by subst h;simp [splitB]
 | l,c :: x,r,acc,h,hx=>by
  subst h
  simp only [List.cons_append]
  conv=>lhs;unfold splitB
  rw [if_neg (by rintro rfl;simp at hx),splitB_some b _ x r _ rfl (by simp at hx;exact hx.2)]
  simp
theorem index_one (b:UInt8):∀ l:List UInt8,(b ∉ l∧Lib.index l [b]=-1)∨∃ x r,l=x ++ b :: r∧b ∉ x∧Lib.index l [b]=(x.length:Int)
 | []=>.inl ⟨by simp,by simp [Lib.index]⟩
 | c :: l=>by
  unfold Lib.index
  by_cases h:b=c
  ·subst h
   refine .inr ⟨[],l,rfl,by simp,?_⟩
   simp
  ·have hp:([b]:List UInt8).isPrefixOf (c :: l)=false:=by simp [List.isPrefixOf,h]
   rw [hp]
   rcases index_one b l with ⟨h1,h2⟩|⟨x,r,h1,h2,h3⟩
   ·exact .inl ⟨by simp [h,h1],by rw [h2];rfl⟩
   ·refine .inr ⟨c :: x,r,by rw [h1];rfl,by simp [h,h2],?_⟩
    rw [h3]
    have:((x.length:Int) == -1)=false:=by rw [beq_eq_false_iff_ne];omega
    rw [this]
    simp
def bytesOf (l:List UInt8):ByteArray:=⟨l.toArray⟩
end Go.Proofs.YtbljmfcifljkaaaGreatDoor
/-
  Entries read from their texts. No program in sight. Own work.
-/
namespace Go.Proofs.YtbljmfcifljkaaaGreatDoor
open Go.RowKit
theorem good_names {L:List Df} (h:good L=true):∀ d ∈ L,nameB d.name=true:=by
 have go:∀ (A P:List Df),goodGo P A=true → ∀ d ∈ A,nameB d.name=true:=by
  intro A
  induction A with
  | nil=>intro P _ d hd;cases hd
  | cons a A ih =>
   intro P hp d hd
   simp only [goodGo,Bool.and_eq_true] at hp
   rcases List.mem_cons.1 hd with rfl|hd
   ·have:=hp.1;simp only [goodAt,Bool.and_eq_true] at this;exact this.1.2
   ·exact ih _ hp.2 d hd
 simp only [good,Bool.and_eq_true] at h
 exact go L [] h.2
def e0:En:=⟨0,⟨#[]⟩,⟨#[]⟩,[]⟩
end Go.Proofs.YtbljmfcifljkaaaGreatDoor
