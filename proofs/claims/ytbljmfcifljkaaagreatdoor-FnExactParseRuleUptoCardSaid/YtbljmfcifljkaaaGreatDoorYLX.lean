/-
  Tokens of a list of bytes, without their places; tokens of a printed tree. No program in sight. Own work.
-/
import Derived.Test.YtbljmfcifljkaaaGreatDoorYAA
import Derived.Test.YtbljmfcifljkaaaGreatDoorYT
import Derived.Test.YtbljmfcifljkaaaGreatDoorYLW
set_option linter.all false
set_option maxRecDepth 100000
set_option maxHeartbeats 8000000
namespace Go.Proofs.YtbljmfcifljkaaaGreatDoor
end Go.Proofs.YtbljmfcifljkaaaGreatDoor
/-
  A printed tree is read back. No program in sight. Own work.
-/
namespace Go.Proofs.YtbljmfcifljkaaaGreatDoor
def Tr.nodes:Tr → List Nd
 | .leaf n=>[n]
 | .seq a b=>a.nodes ++ b.nodes ++ [⟨15,0,⟨#[]⟩⟩]
 | .par a b=>a.nodes ++ b.nodes ++ [⟨16,0,⟨#[]⟩⟩]
def LeafGood (n:Nd):Prop:=(n.kind=17∧n.value=0∧nameB n.name=true)∨leafB n=true
def Tr.Good:Tr → Prop
 | .leaf n=>LeafGood n
 | .seq a b=>a.Good∧b.Good
 | .par a b=>a.Good∧b.Good
def goodW (x:ByteArray):Bool:=match x.data.toList with
 | b :: w=>lowB b && w.all lodB
 | []=>false
theorem nameB_good {s:ByteArray} (h:nameB s=true):goodW s=true∧kindOfW s=17:=by
 unfold nameB at h
 simp only [Bool.and_eq_true,decide_eq_true_eq] at h
 refine ⟨?_,h.2⟩
 have h1:=h.1
 unfold wordB at h1
 split at h1
 ·rename_i hs
  simp only [Bool.and_eq_true] at h1
  have e:s.data.toList=s[0]'(by omega) :: s.data.toList.drop 1:=by
   have:=List.drop_eq_getElem_cons (l:=s.data.toList) (i:=0) (by simp;omega)
   rw [List.drop_zero] at this
   exact this
  unfold goodW
  rw [e]
  simp only [Bool.and_eq_true]
  exact ⟨h1.1,h1.2⟩
 ·cases h1
theorem LeafGood.cases {n:Nd} (h:LeafGood n):(n.kind=17∧n=⟨17,0,n.name⟩∧goodW n.name=true∧kindOfW n.name=17) ∨
  ((n.kind=1∨n.kind=7∨n.kind=13)∧n=⟨n.kind,n.value,⟨#[]⟩⟩∧0≤n.value∧n.value≤96)∨(1≤n.kind∧n.kind≤14∧¬ (n.kind=1∨n.kind=7∨n.kind=13)∧n=⟨n.kind,0,⟨#[]⟩⟩):=by
 obtain ⟨k,v,nm⟩:=n
 rcases h with ⟨h1,h2,h3⟩|h
 ·simp only at h1 h2 h3
  subst h1 h2
  exact .inl ⟨rfl,rfl,nameB_good h3⟩
 ·simp only [leafB,Bool.and_eq_true,decide_eq_true_eq] at h
  obtain ⟨⟨⟨h0,h1⟩,h2⟩,h3⟩:=h
  have hn:nm=⟨#[]⟩:=h0
  subst hn
  simp only at h1 h2 h3 ⊢
  split at h3
  ·simp only [Bool.and_eq_true,decide_eq_true_eq] at h3
   exact .inr (.inl ⟨by omega,by first|rfl|trivial,by omega,by omega⟩)
  ·split at h3
   ·simp only [Bool.and_eq_true,decide_eq_true_eq] at h3
    exact .inr (.inl ⟨by omega,by first|rfl|trivial,by omega,by omega⟩)
   ·simp only [decide_eq_true_eq] at h3
    subst h3
    exact .inr (.inr ⟨h1,h2,by omega,by first|rfl|trivial⟩)
end Go.Proofs.YtbljmfcifljkaaaGreatDoor
/-
  The tokens of a printed tree are parsed to its nodes. No program in sight. Own work.
-/
namespace Go.Proofs.YtbljmfcifljkaaaGreatDoor
end Go.Proofs.YtbljmfcifljkaaaGreatDoor
/-
  A printed term is read back as it was. No program in sight. Own work.
-/
namespace Go.Proofs.YtbljmfcifljkaaaGreatDoor
end Go.Proofs.YtbljmfcifljkaaaGreatDoor
