/-
  Acts of a session: their texts, and what texts are read as. No program in sight. Own work.
-/
import Derived.Test.YtbljmfcifljkaaaGreatDoorVLW
import Derived.Test.YtbljmfcifljkaaaGreatDoorVRU
import Derived.Test.YtbljmfcifljkaaaGreatDoorVT
import Derived.Test.YtbljmfcifljkaaaGreatDoorVAA
import Derived.Lib.AtoiAll
import Derived.Lib.AtoiTie
import Derived.Test.YtbljmfcifljkaaaGreatDoorVSA
set_option linter.all false
set_option maxRecDepth 100000
set_option maxHeartbeats 8000000
namespace Go.Proofs.YtbljmfcifljkaaaGreatDoor
structure AcI where
 kind:Int
 rule:Int
 place:Int
 deriving DecidableEq
def acWords:List ByteArray:=[⟨#[]⟩,⟨#[114,117,108,101]⟩,⟨#[98,97,99,107]⟩,⟨#[115,105,109,112,108,105,102,121]⟩,⟨#[117,110,100,111]⟩,⟨#[114,101,100,111]⟩,⟨#[114,101,115,101,116]⟩]
def acWord (k:Nat):ByteArray:=acWords.getD k ⟨#[]⟩
def acText (ns:List ByteArray) (x:AcI):Option ByteArray :=
 if inB x.kind 1 6 then
  if x.kind≤2 then
   if inB x.rule 0 ((ns.length:Int) - 1) && inB x.place 0 999 then some (acWord x.kind.toNat ++ bSp ++ ns.getD x.rule.toNat ⟨#[]⟩ ++ bSp ++ numT x.place) else none
  else if decide (x.rule=0) && decide (x.place=0) then some (acWord x.kind.toNat) else none
 else none
def parts (s:ByteArray):List (List UInt8):=splitB 32 [] s.data.toList
theorem app_list (a b:ByteArray):(a ++ b).data.toList=a.data.toList ++ b.data.toList:=by simp
def rdA (s:ByteArray):Int:=if (s.data.toList.all digB && decide (1≤s.size))=true then rdV s else -1
theorem digB_iff {b:UInt8}:digB b=true ↔ 48≤b.toNat∧b.toNat≤57:=by unfold digB;simp;omega
theorem dec1 {n:Nat} (h:n<10):Lib.decDigits n=[UInt8.ofNat (48+n)]:=by rw [Lib.decDigits,dif_pos h]
theorem dec2 {n:Nat} (h1:10≤n) (h:n<100):Lib.decDigits n=[UInt8.ofNat (48+n / 10),UInt8.ofNat (48+n % 10)]:=by
 rw [Lib.decDigits,dif_neg (by omega),dec1 (by omega)];rfl
theorem dec3 {n:Nat} (h1:100≤n) (h:n<1000):Lib.decDigits n=[UInt8.ofNat (48+n / 10 / 10),UInt8.ofNat (48+n / 10 % 10),UInt8.ofNat (48+n % 10)]:=by
 rw [Lib.decDigits,dif_neg (by omega),dec2 (by omega) (by omega)];rfl
theorem toNat_dig {n:Nat} (h:n<10):(UInt8.ofNat (48+n)).toNat=48+n:=by rw [UInt8.toNat_ofNat'];omega
theorem numT_list (v:Int):(numT v).data.toList=Lib.decDigits v.toNat:=by simp [numT]
theorem rdA_of {s:ByteArray} (h1:s.data.toList.all digB=true) (h2:1≤s.size) (h3:s.size≤6) (h4:s.size=1∨s.data.toList.headD 0 ≠ 48):rdA s=numV s:=by
 unfold rdA rdV rdOk
 have e:(s.data.toList.all digB && decide (1≤s.size))=true:=by rw [h1,decide_eq_true h2];rfl
 rw [if_pos e,if_pos]
 rw [decide_eq_true h3]
 rcases h4 with h4|h4
 ·rw [decide_eq_false (show ¬ 1<s.size by omega)];rfl
 ·rw [decide_eq_false h4];simp
theorem size_list (s:ByteArray):s.size=s.data.toList.length:=by rw [Array.length_toList];rfl
theorem num_rd {v:Int} (h0:0≤v) (h:v≤999):rdA (numT v)=v∧(numT v).data.toList.all digB=true∧1≤(numT v).size∧(numT v).size≤3:=by
 have hl:=numT_list v
 have hs:=size_list (numT v)
 obtain ⟨n,rfl⟩:∃ n:Nat,v=n:=⟨v.toNat,by omega⟩
 simp only [Int.toNat_natCast] at hl
 have key:∀ L:List UInt8,Lib.decDigits n=L → L.all digB=true → 1≤L.length → L.length≤3 → (L.length=1∨L.headD 0 ≠ 48) → L.foldl (fun n b=>10 * n+((b.toNat:Int) - 48)) 0=n → rdA (numT n)=n∧(numT n).data.toList.all digB=true∧1≤(numT n).size∧(numT n).size≤3:=by
  intro L hL g1 g2 g3 g4 g5
  rw [hL] at hl
  rw [hl] at hs ⊢
  refine ⟨?_,g1,by omega,by omega⟩
  rw [rdA_of (by rw [hl];exact g1) (by omega) (by omega) (by rw [hl];rcases g4 with g4|g4;exact .inl (by omega);exact .inr g4)]
  unfold numV
  rw [hl];exact g5
 by_cases a1:n<10
 ·have t1:=toNat_dig a1
  exact key _ (dec1 a1) (by simp only [List.all_cons,List.all_nil,Bool.and_true];exact digB_iff.2 (by omega)) (by simp) (by simp) (by simp) (by simp only [List.foldl_cons,List.foldl_nil];omega)
 ·by_cases a2:n<100
  ·have t1:=toNat_dig (n:=n / 10) (by omega)
   have t2:=toNat_dig (n:=n % 10) (by omega)
   refine key _ (dec2 (by omega) a2) ?_ (by simp) (by simp) (.inr ?_) ?_
   ·simp only [List.all_cons,List.all_nil,Bool.and_true,Bool.and_eq_true];exact ⟨digB_iff.2 (by omega),digB_iff.2 (by omega)⟩
   ·intro e
    have:=congrArg UInt8.toNat (show UInt8.ofNat (48+n / 10)=48 from e)
    rw [t1] at this
    have h48:(48:UInt8).toNat=48:=rfl
    omega
   ·simp only [List.foldl_cons,List.foldl_nil];omega
  ·have t1:=toNat_dig (n:=n / 10 / 10) (by omega)
   have t2:=toNat_dig (n:=n / 10 % 10) (by omega)
   have t3:=toNat_dig (n:=n % 10) (by omega)
   refine key _ (dec3 (by omega) (by omega)) ?_ (by simp) (by simp) (.inr ?_) ?_
   ·simp only [List.all_cons,List.all_nil,Bool.and_true,Bool.and_eq_true];exact ⟨digB_iff.2 (by omega),digB_iff.2 (by omega),digB_iff.2 (by omega)⟩
   ·intro e
    have:=congrArg UInt8.toNat (show UInt8.ofNat (48+n / 10 / 10)=48 from e)
    rw [t1] at this
    have h48:(48:UInt8).toNat=48:=rfl
    omega
   ·simp only [List.foldl_cons,List.foldl_nil];omega
end Go.Proofs.YtbljmfcifljkaaaGreatDoor
/-
  The laws' copies and comparisons of acts. Own work.
-/
namespace Go.Proofs.YtbljmfcifljkaaaGreatDoor
open Go.RowKit
set_option maxRecDepth 100000
set_option maxHeartbeats 4000000
def acV (x:AcI):Value:=.agg #[.int .i64 x.kind,.int .i64 x.rule,.int .i64 x.place]
theorem toAct_any (x:AcI) (w:World):Calls Tryz.prog 21 #[acV x] w fun e w'=>e=.returned (acV x)∧Below w.heap.size w w':=by
 unfold acV
 go_enter Tryz.func21,Tryz.ntmps21
 go_wp2
 refine bodyPost_ret (v:=.agg #[.int .i64 x.kind,.int .i64 x.rule,.int .i64 x.place]) (by simp [results,Tryz.results21,go_sem]) rfl ⟨rfl,?_⟩
 repeat (first|exact Below.refl _ _|refine Below.alloc ?_ (by simp <;> omega) _)
end Go.Proofs.YtbljmfcifljkaaaGreatDoor
