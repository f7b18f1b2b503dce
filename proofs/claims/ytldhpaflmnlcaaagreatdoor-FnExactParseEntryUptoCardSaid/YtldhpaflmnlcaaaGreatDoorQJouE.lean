/-
  Entries read from their texts. No program in sight. Own work.
-/
import Derived.Test.YtldhpaflmnlcaaaGreatDoorQLibP
import Derived.Test.YtldhpaflmnlcaaaGreatDoorQT
set_option linter.all false
namespace Go.Proofs.YtldhpaflmnlcaaaGreatDoor
open Go.RowKit
theorem good_names {L:List Df} (h:good L = true):∀ d ∈ L,nameB d.name = true:=by
 have go:∀ (A P:List Df),goodGo P A = true → ∀ d ∈ A,nameB d.name = true:=by
  intro A
  induction A with
  | nil=>intro P _ d hd;cases hd
  | cons a A ih =>
   intro P hp d hd
   simp only [goodGo,Bool.and_eq_true] at hp
   rcases List.mem_cons.1 hd with rfl|hd
   ·have:=hp.1;simp only [goodAt,Bool.and_eq_true] at this;exact this.1.2
   ·exact ih _ hp.2 d hd
 simp only [good,Bool.and_eq_true] at h
 exact go L [] h.2
theorem nameB_no32 {s:ByteArray} (h:nameB s = true):(32:UInt8) ∉ s.data.toList:=by
 simp only [nameB,Bool.and_eq_true] at h
 have hw:=h.1
 have hsz:1≤s.size∧s.size≤8:=by
  rcases Decidable.em (1≤s.size∧s.size≤8) with h1|h1
  ·exact h1
  ·rw [wordB_no h1] at hw;cases hw
 have hl:lowB (s[0]'(by omega)) = true:=by
  cases hl:lowB (s[0]'(by omega))
  ·rw [wordB_low hsz hl] at hw;cases hw
  ·rfl
 rw [wordB_rest0 hsz hl] at hw
 simp only [restB,List.drop_zero,List.all_eq_true] at hw
 intro hm
 have:=hw 32 hm
 exact absurd this (by decide)
theorem find_mem {L:List Df} {n:ByteArray} {d:Df} (h:findD L n = some d):d ∈ L∧d.name = n:=by
 unfold findD at h
 exact ⟨List.mem_of_find?_eq_some h,by have:=List.find?_some h;simpa using this⟩
theorem drop_name {L R:List Df} {n to:ByteArray} {b:List Nd} (h:applyE L ⟨2,n,to,b⟩ = some R):nameB n = true:=by
 unfold applyE at h
 split at h
 ·rename_i hg
  dsimp only at h
  rw [if_neg (by decide),if_pos rfl] at h
  simp only [remL] at h
  split at h
  ·rename_i hf
   rcases findFrom_cases n L 0 with ⟨h1,_⟩|⟨i,hi,h1,h2⟩
   ·omega
   ·obtain ⟨h3,h4⟩:=find_mem h2
    have:=good_names hg.1 _ h3
    rwa [h4] at this
  ·cases h
 ·cases h
theorem rename_name {L R:List Df} {n to:ByteArray} {b:List Nd} (h:applyE L ⟨3,n,to,b⟩ = some R):nameB to = true:=by
 unfold applyE at h
 split at h
 ·rename_i hg
  dsimp only at h
  rw [if_neg (by decide),if_neg (by decide),if_pos rfl] at h
  simp only [renL] at h
  split at h
  ·rename_i hf
   obtain ⟨hR,rfl⟩:=okL_good h
   rcases findFrom_cases n L 0 with ⟨h1,_⟩|⟨i,hi,h1,h2⟩
   ·omega
   ·obtain ⟨h3,h4⟩:=find_mem h2
    have:=good_names hR _ (List.mem_map_of_mem (f:=renD n to) h3)
    simpa [renD,h4] using this
  ·cases h
 ·cases h
def lLet:List UInt8:=[108,101,116,32]
def lDrop:List UInt8:=[100,114,111,112]
def lName:List UInt8:=[110,97,109,101]
def e0:En:=⟨0,⟨#[]⟩,⟨#[]⟩,[]⟩
def enD (d:Df):En:=⟨1,d.name,⟨#[]⟩,d.body⟩
def rawI (L:List Df) (l:List UInt8):Option En :=
 if lLet.isPrefixOf l then (defL L (bytesOf (l.drop 4))).map enD
 else if (lDrop ++ [32]).isPrefixOf l then some ⟨2,bytesOf (l.drop 5),⟨#[]⟩,[]⟩
 else if (lName ++ [32]).isPrefixOf l then (if (Lib.cut (l.drop 5) [32]).2.2 then some ⟨3,bytesOf (Lib.cut (l.drop 5) [32]).1,bytesOf (Lib.cut (l.drop 5) [32]).2.1,[]⟩ else none)
 else none
def rawS (L:List Df) (l:List UInt8):Option En :=
 if 4 < l.length∧lLet.isPrefixOf l = true then (defL L (bytesOf (l.drop 4))).map enD
 else match splitB 32 [] l with
 | [a,b]=>if a = lDrop then some ⟨2,bytesOf b,⟨#[]⟩,[]⟩ else some e0
 | [a,b,c]=>if a = lName then some ⟨3,bytesOf b,bytesOf c,[]⟩ else some e0
 | _=>some e0
def checkE (L:List Df) (s:ByteArray):Option En → Option En
 | some e=>if (applyE L e).isSome = true∧txtE e = s then some e else none
 | none=>none
def entL (L:List Df) (s:ByteArray):Option En:=checkE L s (rawI L s.data.toList)
theorem check_e0 (L:List Df) (s:ByteArray):checkE L s (some e0) = none:=by
 have:applyE L e0 = none:=by
  unfold applyE
  split
  ·rfl
  ·rfl
 simp [checkE,this]
theorem check_no {L:List Df} {s:ByteArray} {e:En} (h:applyE L e = none):checkE L s (some e) = none:=by simp [checkE,h]
theorem pre_split {p l:List UInt8} (hp:32 ∉ p) (h:(p ++ [32]).isPrefixOf l = true):splitB 32 [] l = p :: splitB 32 [] (l.drop (p.length+1)):=by
 obtain ⟨r,rfl⟩:=List.isPrefixOf_iff_prefix.1 h
 rw [splitB_some 32 _ p r [] (by simp) hp]
 simp
theorem splitB_first (b:UInt8):∀ (l acc x y:List UInt8) (r:List (List UInt8)),splitB b acc l = x :: y :: r → ∃ z,acc ++ l = x ++ b :: z
 | [],acc,x,y,r,h=>by simp [splitB] at h
 | c :: l,acc,x,y,r,h=>by
  unfold splitB at h
  split at h
  ·rename_i hc
   subst hc
   simp only [List.cons.injEq] at h
   exact ⟨l,by rw [h.1]⟩
  ·obtain ⟨z,hz⟩:=splitB_first b l _ x y r h
   exact ⟨z,by rw [← hz];simp⟩
theorem split_pre {l a y:List UInt8} {r:List (List UInt8)} (h:splitB 32 [] l = a :: y :: r):(a ++ [32]).isPrefixOf l = true:=by
 obtain ⟨z,hz⟩:=splitB_first 32 l [] a y r h
 rw [List.isPrefixOf_iff_prefix]
 exact ⟨z,by simpa using hz.symm⟩
theorem defL_nil (L:List Df):defL L (bytesOf []) = none:=by
 have:tokL (bytesOf []) = .ok []:=by
  unfold tokL
  rw [if_neg (by decide)]
  unfold tokFrom
  rfl
 simp [defL,pDefL,this]
theorem ent_eq {L:List Df} (s:ByteArray):checkE L s (rawS L s.data.toList) = entL L s:=by
 unfold entL
 generalize s.data.toList = l
 unfold rawS rawI
 by_cases hlet:lLet.isPrefixOf l = true
 ·rw [if_pos hlet]
  by_cases h4:4 < l.length
  ·rw [if_pos ⟨h4,hlet⟩]
  ·rw [if_neg (fun h=>h4 h.1)]
   obtain ⟨r,hr0⟩:=List.isPrefixOf_iff_prefix.1 hlet
   have hr:r = []:=by cases r with|nil=>rfl|cons a r=>rw [← hr0] at h4;simp [lLet] at h4
   rw [hr] at hr0
   rw [← hr0]
   rw [show List.drop 4 (lLet ++ ([]:List UInt8)) = [] from rfl,defL_nil,show splitB 32 [] (lLet ++ []) = [[108,101,116],[]] from by decide]
   simp only
   rw [if_neg (by decide),check_e0]
   rfl
 rw [if_neg hlet,if_neg (fun h=>hlet h.2)]
 by_cases hd:(lDrop ++ [32]).isPrefixOf l = true
 ·rw [if_pos hd,pre_split (by decide) hd,show lDrop.length+1 = 5 from rfl]
  generalize l.drop 5 = r
  rcases cut_split 32 r with ⟨_,h1⟩|⟨x,y,h1,h2,_⟩
  ·rw [splitB_none 32 r [] h1]
   simp
  ·have hno:applyE L ⟨2,bytesOf r,⟨#[]⟩,[]⟩ = none:=by
    cases ha:applyE L ⟨2,bytesOf r,⟨#[]⟩,[]⟩ with
    | none=>rfl
    | some R =>
     have:=nameB_no32 (drop_name ha)
     rw [h1] at this
     simp [bytesOf] at this
   rw [check_no hno,splitB_some 32 r x y [] h1 h2]
   have hne:=splitB_ne 32 y []
   cases hs:splitB 32 [] y with
   | nil=>exact absurd hs hne
   | cons a t =>
    cases t with
    | nil=>simp only [List.nil_append];rw [if_neg (by decide),check_e0]
    | cons b t=>simp only [List.nil_append];rw [check_e0]
 rw [if_neg hd]
 by_cases hnm:(lName ++ [32]).isPrefixOf l = true
 ·rw [if_pos hnm,pre_split (by decide) hnm,show lName.length+1 = 5 from rfl]
  generalize l.drop 5 = r
  rcases cut_split 32 r with ⟨h1,h2⟩|⟨x,y,h1,h2,h3⟩
  ·rw [h1,splitB_none 32 r [] h2]
   simp only [List.nil_append]
   rw [if_neg (by decide),check_e0]
   rfl
  ·rw [h3,splitB_some 32 r x y [] h1 h2]
   simp only [List.nil_append,if_true]
   rcases cut_split 32 y with ⟨_,h4⟩|⟨p,q,h4,h5,_⟩
   ·rw [splitB_none 32 y [] h4]
    simp
   ·have hno:applyE L ⟨3,bytesOf x,bytesOf y,[]⟩ = none:=by
     cases ha:applyE L ⟨3,bytesOf x,bytesOf y,[]⟩ with
     | none=>rfl
     | some R =>
      have:=nameB_no32 (rename_name ha)
      rw [h4] at this
      simp [bytesOf] at this
    rw [check_no hno,splitB_some 32 y p q [] h4 h5]
    have hne:=splitB_ne 32 q []
    cases hs:splitB 32 [] q with
    | nil=>exact absurd hs hne
    | cons a t=>simp only [List.nil_append];rw [check_e0]
 rw [if_neg hnm]
 have hz:∀ o:Option En,o = some e0 → checkE L s o = checkE L s none:=by rintro o rfl;rw [check_e0];rfl
 apply hz
 split
 ·rename_i a b hs
  rw [if_neg]
  rintro rfl
  exact hd (split_pre hs)
 ·rename_i a b c hs
  rw [if_neg]
  rintro rfl
  exact hnm (split_pre hs)
 ·rfl
theorem ent_parts {L:List Df} {s:ByteArray} {e:En} (h:entL L s = some e):∃ R,applyE L e = some R∧txtE e = s:=by
 unfold entL at h
 cases hr:rawI L s.data.toList with
 | none=>rw [hr] at h;cases h
 | some x =>
  rw [hr] at h
  simp only [checkE] at h
  split at h
  ·rename_i hc
   obtain rfl:=Option.some.inj h
   obtain ⟨R,hR⟩:=Option.isSome_iff_exists.1 hc.1
   exact ⟨R,hR,hc.2⟩
  ·cases h
end Go.Proofs.YtldhpaflmnlcaaaGreatDoor
