/-
  The reference's l1Split: the parts of a text. Own work.
-/
import Derived.Test.YtldhpaflmnlcaaaGreatDoorQAA
import Derived.Test.YtldhpaflmnlcaaaGreatDoorQLibP
set_option linter.all false
namespace Go.Proofs.YtldhpaflmnlcaaaGreatDoor
open Go.RowKit
theorem splitB_each (b:UInt8):∀ (l acc p:List UInt8),p ∈ splitB b acc l → p.length≤acc.length+l.length
 | [],acc,p,h=>by simp [splitB] at h;subst h;simp
 | c :: l,acc,p,h=>by
  unfold splitB at h
  split at h
  ·rcases List.mem_cons.1 h with rfl|h
   ·simp
   ·have:=splitB_each b l [] p h;simp at this ⊢;omega
  ·have:=splitB_each b l _ p h;simp at this ⊢;omega
theorem infoSt:(Tryz.prog.info? 9).map (fun i=>(i.zero,i.size,i.bytes)) = some (some (.string ⟨#[]⟩),1,16):=by kernel_rfl
def ptCells (p:List UInt8):List Value:=[.string (bytesOf p)]
theorem ptCells_len (p:List UInt8):(ptCells p).length = 1:=rfl
def PartsOwn (w:World) (B:Nat) (v:Value) (ps:List (List UInt8)):Prop:=w.ownsRow B 9 1 v ps.length (ps.flatMap ptCells)
def PartsAt (w:World) (v:Value) (ps:List (List UInt8)):Prop:=SlAt 1 v ps.length fun i b o=>∃ h:i < ps.length,w.cell? ⟨b,o,none⟩ = some (.string (bytesOf ps[i]))
theorem PartsOwn.at {w:World} {B:Nat} {v:Value} {ps:List (List UInt8)} (h:PartsOwn w B v ps):PartsAt w v ps:=by
 refine owns_slat h _ fun i b o hi hc=>⟨hi,?_⟩
 have g:∀ j,j < 1 → w.cell? ⟨b,o+j,none⟩ = (ptCells ps[i])[j]?:=fun j hj=>(hc j hj).trans (flat_get ptCells_len ps i j hi hj)
 exact g 0 (by omega)
theorem PartsAt.keep {w w':World} (hb:Below w.heap.size w w') {v:Value} {ps:List (List UInt8)} (h:PartsAt w v ps):PartsAt w' v ps :=
 h.mono fun i b o ⟨hi,hr⟩=>⟨hi,cell_keep hb hr⟩
theorem parts_push {w:World} {B:Nat} {v:Value} {ps:List (List UInt8)} {t:ByteArray} (p:List UInt8) (hp:bytesOf p = t) (h:w.ownsRow B 9 1 v (ps.length+1) (ps.flatMap ptCells ++ [.string t])):PartsOwn w B v (ps ++ [p]):=by
 subst hp
 unfold PartsOwn
 simpa [List.flatMap_append,ptCells] using h
def cutL (s:ByteArray) (i j:Nat):List UInt8:=(s.extract i j).data.toList
theorem bytes_cut (s:ByteArray) (i j:Nat):bytesOf (cutL s i j) = s.extract i j:=by unfold bytesOf cutL;cases s.extract i j;rfl
theorem cutL_eq (s:ByteArray) (i j:Nat):cutL s i j = (s.data.toList.take j).drop i:=by
 unfold cutL
 simp [ByteArray.extract,ByteArray.copySlice,List.drop_take]
theorem cutL_nil (s:ByteArray) (k:Nat):cutL s k k = []:=by rw [cutL_eq];apply List.drop_eq_nil_of_le;simp;omega
theorem cutL_snoc (s:ByteArray) (f k:Nat) (h:f≤k) (hk:k < s.size):cutL s f (k+1) = cutL s f k ++ [s[k]]:=by
 have hk':k < s.data.toList.length:=by simpa using hk
 rw [cutL_eq,cutL_eq,List.take_succ_eq_append_getElem hk',List.drop_append_of_le_length (by simp;omega)]
 rfl
theorem cutL_len (s:ByteArray) (f k:Nat) (hk:k≤s.size):(cutL s f k).length = k - f:=by
 rw [cutL_eq];simp;omega
theorem drop_step (s:ByteArray) (k:Nat) (hk:k < s.size):s.data.toList.drop k = s[k] :: s.data.toList.drop (k+1):=List.drop_eq_getElem_cons (by simpa using hk)
theorem split_at {b:UInt8} {acc r:List UInt8} {c:UInt8} (h:c = b):splitB b acc (c :: r) = acc :: splitB b [] r:=by conv=>lhs;unfold splitB;rw [if_pos h]
theorem split_on {b:UInt8} {acc r:List UInt8} {c:UInt8} (h:¬ c = b):splitB b acc (c :: r) = splitB b (acc ++ [c]) r:=by conv=>lhs;unfold splitB;rw [if_neg h]
set_option maxRecDepth 100000 in
set_option maxHeartbeats 2000000 in
theorem l1Split_any (s:ByteArray) (b:UInt8) (w:World) (hs:s.size≤4194304) :
  Calls Tryz.prog 74 #[.string s,.int .u8 b.toNat] w fun e w'=>∃ v,e = .returned v∧PartsOwn w' w.heap.size v (splitB b [] s.data.toList)∧Below w.heap.size w w':=by
 obtain ⟨R,hR⟩:∃ R,splitB b [] s.data.toList = R:=⟨_,rfl⟩
 rw [hR]
 have HR:=Lib.hid hR
 have hRl:R.length≤s.size+1:=by rw [← hR];have:=splitB_len b s.data.toList [];simpa using this
 clear hR
 obtain ⟨i0,hi,hz0,hz1,hz2⟩:=info_parts infoSt
 go_enter Tryz.func74,Tryz.ntmps74
 go_wp2
 go_loopw [5,6,7] (fun v fv i wr=>∃ (k f:Nat) (ps:List (List UInt8)),k≤s.size∧f≤k∧i = .int .i64 k∧fv = .int .i64 f∧PartsOwn wr w.heap.size v ps∧Hid (R = ps ++ splitB b (cutL s f k) (s.data.toList.drop k))∧Below w.heap.size w wr∧ps.length≤k) (fun _ _ i _=>s.size - (intOf i).toNat)
 case atStart=>exact ⟨0,0,[],Nat.zero_le _,Nat.le_refl _,rfl,rfl,⟨by simp,.inl ⟨rfl,rfl⟩⟩,(by rw [cutL_nil];exact HR.out.symm:Hid (R = [] ++ splitB b (cutL s 0 0) (s.data.toList.drop 0))),Below.refl _ _,Nat.le_refl _⟩
 case round =>
  obtain ⟨k,f,ps,hk,hfk,rfl,rfl,hown,HG,hbel,hal⟩:=hrel
  have hsz:=hbel.size
  obtain ⟨ao,cp,rfl⟩:=owns_shape' hown
  by_cases hlt:k < s.size
  ·by_cases hb:s[k] = b
   ·have hbb:((s[k].toNat:Int) == b.toNat) = true:=by rw [hb];simp
    have HS:Hid (R = (ps ++ [cutL s f k]) ++ splitB b (cutL s (k+1) (k+1)) (s.data.toList.drop (k+1))):=(show _ = _ by rw [HG.out,drop_step s k hlt,split_at hb,cutL_nil];simp)
    clear HG hb
    go_wp2_with (at_builtin;refine wpList_append_own _ rfl _ _ 98 rfl w.heap.size 9 i0 _ 1 16 Tryz.underlying98 hi hz0 hz1 hz2 rfl (by decide) _ _ _ rfl (hown.alloc _) ⟨wr.heap.size,0,none⟩ 1 1 [.string (s.extract f k)] rfl rfl ?c1 ?c2 ?c3 ?c4 ?c5 ?_)
    case c1 =>
     intro i u hj
     match i,hj with
     | 0,hj=>simp at hj;subst hj;simp [Addr.add]
    case c2=>first|(intro u hu;simp at hu;subst hu;rfl)|exact rfl
    case c3=>first|omega|(unfold maxLen;omega)
    case c4=>omega
    case c5=>first|omega|(simp;omega)
    intro v' w3 hown3 hgrow _
    have hb3:Below w.heap.size w w3:=(hbel.alloc (by omega) _).grown hgrow (by simp;omega) (fun j hj=>(World.ownsRow.lt hown j hj).1)
    have hown4:=parts_push _ (bytes_cut s f k) hown3
    clear hown3 hgrow hown
    go_wp2
    go_roundw
    case rel=>exact ⟨k+1,k+1,_,by omega,Nat.le_refl _,by go_num,by go_num,hown4,HS,hb3,by simp;omega⟩
    case measure=>simp [intOf];omega
   ·have hbb:((s[k].toNat:Int) == b.toNat) = false:=by rw [u8_beq _ _ (by have:=b.toNat_lt;omega)];simpa using hb
    have HS:Hid (R = ps ++ splitB b (cutL s f (k+1)) (s.data.toList.drop (k+1))):=(show _ = _ by rw [HG.out,drop_step s k hlt,split_on hb,cutL_snoc s f k hfk hlt])
    clear HG hb
    go_wp2
    go_roundw
    case rel=>exact ⟨k+1,f,ps,by omega,by omega,by go_num,rfl,hown,HS,hbel,by omega⟩
    case measure=>simp [intOf];omega
  ·obtain rfl:k = s.size:=by omega
   have HE:Hid (R = ps ++ [cutL s f s.size]):=(show _ = _ by rw [HG.out,List.drop_eq_nil_of_le (by simp)];rfl)
   clear HG
   go_wp2_with (at_builtin;refine wpList_append_own _ rfl _ _ 98 rfl w.heap.size 9 i0 _ 1 16 Tryz.underlying98 hi hz0 hz1 hz2 rfl (by decide) _ _ _ rfl (hown.alloc _) ⟨wr.heap.size,0,none⟩ 1 1 [.string (s.extract f s.size)] rfl rfl ?c1 ?c2 ?c3 ?c4 ?c5 ?_)
   case c1 =>
    intro i u hj
    match i,hj with
    | 0,hj=>simp at hj;subst hj;simp [Addr.add]
   case c2=>first|(intro u hu;simp at hu;subst hu;rfl)|exact rfl
   case c3=>first|omega|(unfold maxLen;omega)
   case c4=>omega
   case c5=>first|omega|(simp;omega)
   intro v' w3 hown3 hgrow _
   have hb3:Below w.heap.size w w3:=(hbel.alloc (by omega) _).grown hgrow (by simp;omega) (fun j hj=>(World.ownsRow.lt hown j hj).1)
   have hown4:=parts_push _ (bytes_cut s f s.size) hown3
   clear hown3 hgrow hown
   go_wp2
   go_ret
   rw [HE.out]
   exact ⟨_,rfl,hown4,hb3⟩
end Go.Proofs.YtldhpaflmnlcaaaGreatDoor
