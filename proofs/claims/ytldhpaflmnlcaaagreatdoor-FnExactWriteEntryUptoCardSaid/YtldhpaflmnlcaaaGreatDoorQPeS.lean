/-
  The reference's ParseEntry, the ways of joRead joined. Own work.
-/
import Derived.Test.YtldhpaflmnlcaaaGreatDoorQPS
import Derived.Test.YtldhpaflmnlcaaaGreatDoorQPT
set_option linter.all false
set_option maxRecDepth 100000
set_option maxHeartbeats 8000000
namespace Go.Proofs.YtldhpaflmnlcaaaGreatDoor
open Go.RowKit
theorem joRead_any (v:Value) (L:List Df) (s:ByteArray) (w:World) (hv:DfsAt w v L) (hg:good L=true) (hs:s.size≤1048576) :
  Calls Tryz.prog 92 #[v,.string s] w (EntP (entL L s) w):=by
 obtain ⟨P,hP⟩:∃ P,splitB 32 [] s.data.toList=P:=⟨_,rfl⟩
 have hsp:=fun w=>l1Split_any s 32 w (by omega)
 rw [hP] at hsp
 rw [show (((32:UInt8).toNat:Nat):Int)=32 from rfl] at hsp
 have hPe:∀ p ∈ P,p.length≤s.size:=fun p hp=>by rw [← hP] at hp;have:=splitB_each 32 _ _ p hp;simpa using this
 obtain ⟨o,ho⟩:∃ o,entL L s=o:=⟨_,rfl⟩
 rw [ho]
 rw [← ent_eq s] at ho
 unfold rawS at ho
 have hlen:s.data.toList.length=s.size:=by simp
 by_cases hlet:4<s.data.toList.length∧lLet.isPrefixOf s.data.toList=true
 ·rw [if_pos hlet] at ho
  have h4:(s.extract 0 4)=⟨#[108,101,116,32]⟩:=by
   obtain ⟨r,hr⟩:=List.isPrefixOf_iff_prefix.1 hlet.2
   have:cutL s 0 4=lLet:=by rw [cutL_eq,← hr];rfl
   rw [← bytes_cut,this];rfl
  have hX:s.extract 4 s.size=bytesOf (s.data.toList.drop 4):=by
   rw [← bytes_cut,cutL_eq,← hlen,List.take_length]
  have hXs:(bytesOf (s.data.toList.drop 4)).size≤4194304:=by have:=drop_size s 4;omega
  have g2:((s.extract 0 4).toList == [108,101,116,32])=true:=by rw [h4,ByteArray.toList_eq];decide
  cases hd:defL L (bytesOf (s.data.toList.drop 4)) with
  | none=>rw [hd] at ho;exact joRead_let0 v L s P w hv hg hs hsp (by omega) g2 _ hX hXs o hd ho.symm
  | some d=>rw [hd] at ho;exact joRead_let1 v L s P w hv hg hs hsp (by omega) g2 _ hX hXs o d hd (enD_ok hg hd) ho
 rw [if_neg hlet,hP] at ho
 have hl:¬ (4:Int)<s.size∨((4:Int)<s.size∧((s.extract 0 4).toList == [108,101,116,32])=false):=by
  by_cases h4:4<s.size
  ·refine .inr ⟨by omega,?_⟩
   have hne:¬ s.extract 0 4=⟨#[108,101,116,32]⟩:=by
    intro e
    apply hlet
    refine ⟨by omega,List.isPrefixOf_iff_prefix.2 ⟨s.data.toList.drop 4,?_⟩⟩
    have h5:cutL s 0 4=lLet:=by unfold cutL;rw [e];rfl
    rw [cutL_eq,List.drop_zero] at h5
    rw [← h5,List.take_append_drop]
   have:=str_ne hne
   rwa [show (⟨#[108,101,116,32]⟩:ByteArray).toList=[108,101,116,32] by rw [ByteArray.toList_eq]] at this
  ·exact .inl (by omega)
 have bz:∀ p ∈ P,(bytesOf p).size≤1048576:=fun p hp=>by rw [bytes_len];have:=hPe p hp;omega
 match P,ho,hsp,bz,hP with
 | [],ho,hsp,bz,hP=>exact absurd hP (splitB_ne _ _ _)
 | [a],ho,hsp,bz,hP=>exact joRead_e0n v L s _ w hv hg hs hsp hl o (by rw [← ho];exact check_e0 L s) (by simp) (by simp)
 | [a,b],ho,hsp,bz,hP =>
  simp only at ho
  by_cases ha:a=lDrop
  ·rw [if_pos ha] at ho
   exact joRead_drop v L s _ w hv hg hs hsp hl b _ o (by rw [ha]) rfl (enS_ok (bz b (by simp)) (by decide)) ho
  ·rw [if_neg ha] at ho
   have hne:¬ bytesOf a=⟨#[100,114,111,112]⟩:=fun e=>ha (by have:=congrArg (fun x:ByteArray=>x.data.toList) e;simpa [bytesOf,lDrop] using this)
   have:=str_ne hne
   rw [show (⟨#[100,114,111,112]⟩:ByteArray).toList=[100,114,111,112] by rw [ByteArray.toList_eq]] at this
   exact joRead_e02 v L s _ w hv hg hs hsp hl o (by rw [← ho];exact check_e0 L s) a b _ rfl rfl this
 | [a,b,c],ho,hsp,bz,hP =>
  simp only at ho
  by_cases ha:a=lName
  ·rw [if_pos ha] at ho
   exact joRead_name v L s _ w hv hg hs hsp hl b c _ _ o (by rw [ha]) rfl rfl (enS_ok (bz b (by simp)) (bz c (by simp))) ho
  ·rw [if_neg ha] at ho
   have hne:¬ bytesOf a=⟨#[110,97,109,101]⟩:=fun e=>ha (by have:=congrArg (fun x:ByteArray=>x.data.toList) e;simpa [bytesOf,lName] using this)
   have:=str_ne hne
   rw [show (⟨#[110,97,109,101]⟩:ByteArray).toList=[110,97,109,101] by rw [ByteArray.toList_eq]] at this
   exact joRead_e03 v L s _ w hv hg hs hsp hl o (by rw [← ho];exact check_e0 L s) a b c _ rfl rfl this
 | a :: b :: c :: d :: t,ho,hsp,bz,hP=>exact joRead_e0n v L s _ w hv hg hs hsp hl o (by rw [← ho];exact check_e0 L s) (by simp;omega) (by simp;omega)
end Go.Proofs.YtldhpaflmnlcaaaGreatDoor
