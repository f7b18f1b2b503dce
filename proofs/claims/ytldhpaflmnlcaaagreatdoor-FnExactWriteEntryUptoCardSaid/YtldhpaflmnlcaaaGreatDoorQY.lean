/-
  Checks and records of texts, and RecordOf, the program's and the reference's. Own work.
-/
import Derived.Test.YtldhpaflmnlcaaaGreatDoorQX
import Derived.Lib.LaidTab
import Derived.Lib.AppendIntMem
import Derived.Test.YtldhpaflmnlcaaaGreatDoorRows
import Derived.Stop.LaidErr
set_option linter.all false
set_option maxRecDepth 100000
set_option maxHeartbeats 8000000
namespace Go.Proofs.YtldhpaflmnlcaaaGreatDoor
open Go.RowKit
def PowTab (w : World) : Prop := Lib.TabIs Tryz.prog w "internal/strconv.uint64pow10" .u64 Lib.pow10Tab
theorem gPow : Tryz.prog.globalNamed "internal/strconv.uint64pow10" = some 3 := by kernel_rfl
theorem PowTab.keep {w w':World} (hb:Below w.heap.size w w') (h:PowTab w):PowTab w':=by
 unfold PowTab Lib.TabIs World.var? at *
 simp only [gPow,Option.bind_some] at h ⊢
 have hlt:3<w.heap.size:=by
  rcases Nat.lt_or_ge 3 w.heap.size with h'|h'
  ·exact h'
  ·rw [Array.getElem?_eq_none h'] at h;simp at h
 rw [hb.block _ hlt]
 exact h
theorem itoaBig_any (v:Int) (w:World) (ht:PowTab w) (h0:0≤v) (h1:v≤1000000) :
  Calls Tryz.prog 130 #[.int .i64 v] w fun e w'=>e=.returned (.string (numT v))∧Below w.heap.size w w' :=
 (Tryz.strconv_Itoa v (by omega) (by omega) w ht).mono fun e w' ⟨h,k,os,hw⟩=>⟨by rw [h];unfold numT Lib.itoa;rw [if_neg (by omega)],by rw [hw];exact Lib.below_grow _ _ (Nat.le_refl _) _ _⟩
theorem chk_step (s:ByteArray) (k:Nat) (h:k<s.size) (n:Int):chk (s.data.toList.drop k) n=chk (s.data.toList.drop (k+1)) ((131 * n+(s[k].toNat:Int)+1) % 65521):=by
 rw [List.drop_eq_getElem_cons (by simpa using h)]
 rfl
theorem chk_end (s:ByteArray) (n:Int):chk (s.data.toList.drop s.size) n=n:=by
 rw [List.drop_eq_nil_of_le (by simp)]
 rfl
theorem checkOf_any (s:ByteArray) (w:World) (hs:s.size≤9223372036854775807) :
  Calls Tryz.prog 131 #[.string s] w fun e w'=>e=.returned (.int .i64 (chkT s))∧w=w':=by
 go_enter Tryz.func131,Tryz.ntmps131
 go_wp2
 go_loop [3,7] (fun nv i=>∃ (k:Nat) (n:Int),k≤s.size∧i=.int .i64 k∧nv=.int .i64 n∧0≤n∧n≤65520∧Hid (chkT s=chk (s.data.toList.drop k) n)) (fun _ i=>s.size - (intOf i).toNat)
 case atStart=>exact ⟨0,7,Nat.zero_le _,rfl,rfl,by omega,by omega,(by simp [Hid,chkT]:Hid (chkT s=chk (s.data.toList.drop 0) 7))⟩
 case round =>
  obtain ⟨k,n,hk,rfl,rfl,h0,h1,HC⟩:=hrel
  by_cases hlt:k<s.size
  ·have HS:=Lib.hid (HC.out.trans (chk_step s k hlt n))
   have hbt:s[k].toNat<256:=s[k].toNat_lt
   clear HC
   go_wp2
   go_round
   case rel=>exact ⟨k+1,_,by omega,by go_num,rfl,by omega,by omega,HS⟩
   case measure=>simp [intOf];omega
  ·obtain rfl:k=s.size:=by omega
   go_wp2
   go_ret
   exact ⟨ret_int (by rw [HC.out,chk_end]),rfl⟩
theorem joCheck_any (s:ByteArray) (w:World) (hs:s.size≤9223372036854775807) :
  Calls Tryz.prog 129 #[.string s] w fun e w'=>e=.returned (.int .i64 (chkT s))∧w=w':=by
 go_enter Tryz.func129,Tryz.ntmps129
 go_wp2
 go_loop [3,4] (fun nv i=>∃ (k:Nat) (n:Int),k≤s.size∧i=.int .i64 k∧nv=.int .i64 n∧0≤n∧n≤65520∧Hid (chkT s=chk (s.data.toList.drop k) n)) (fun _ i=>s.size - (intOf i).toNat)
 case atStart=>exact ⟨0,7,Nat.zero_le _,rfl,rfl,by omega,by omega,(by simp [Hid,chkT]:Hid (chkT s=chk (s.data.toList.drop 0) 7))⟩
 case round =>
  obtain ⟨k,n,hk,rfl,rfl,h0,h1,HC⟩:=hrel
  by_cases hlt:k<s.size
  ·have HS:=Lib.hid (HC.out.trans (chk_step s k hlt n))
   have hbt:s[k].toNat<256:=s[k].toNat_lt
   clear HC
   go_wp2
   go_round
   case rel=>exact ⟨k+1,_,by omega,by go_num,rfl,by omega,by omega,HS⟩
   case measure=>simp [intOf];omega
  ·obtain rfl:k=s.size:=by omega
   go_wp2
   go_ret
   exact ⟨ret_int (by rw [HC.out,chk_end]),rfl⟩
theorem record_any (s:ByteArray) (w:World) (ht:PowTab w) (hs:s.size≤4194304) :
  Calls Tryz.prog 91 #[.string s] w fun e w'=>e=.returned (.string (recT s))∧Below w.heap.size w w':=by
 obtain ⟨h0,h1⟩:=chkT_bd s
 have hz:(numT (chkT s)).size≤8:=by
  have:=dec_len (chkT s).toNat (by omega)
  simpa [numT,ByteArray.size] using this
 go_enter Tryz.func91,Tryz.ntmps91
 go_wp2_with (first|(go_at_call 131;refine (checkOf_any s _ (by omega)).mono ?_;rintro e w1 ⟨rfl,rfl⟩)|(go_at_call 130;refine (itoaBig_any (chkT s) _ ht h0 (by omega)).mono ?_;rintro e w2 ⟨rfl,hb2⟩))
 go_ret
 exact ⟨rfl,hb2⟩
theorem joRecord_any (s:ByteArray) (w:World) (hs:s.size≤4194304) :
  Calls Tryz.prog 89 #[.string s] w fun e w'=>e=.returned (.string (recT s))∧Below w.heap.size w w':=by
 obtain ⟨h0,h1⟩:=chkT_bd s
 have hz:(numT (chkT s)).size≤8:=by
  have:=dec_len (chkT s).toNat (by omega)
  simpa [numT,ByteArray.size] using this
 have hnum:∀ w,Calls Tryz.prog 128 #[.int .i64 (chkT s)] w fun e w'=>e=.returned (.string (numT (chkT s)))∧Below w.heap.size w w':=fun w=>by
  obtain ⟨k,hk⟩:=Int.eq_ofNat_of_zero_le h0
  rw [hk]
  exact l1Num_any k w (by omega)
 go_enter Tryz.func89,Tryz.ntmps89
 go_wp2_with (first|(go_at_call 129;refine (joCheck_any s _ (by omega)).mono ?_;rintro e w1 ⟨rfl,rfl⟩)|(go_at_call 128;refine (hnum _).mono ?_;rintro e w2 ⟨rfl,hb2⟩))
 go_ret
 exact ⟨rfl,hb2⟩
theorem recT_size (s:ByteArray):(recT s).size≤s.size+16:=by
 obtain ⟨h0,h1⟩:=chkT_bd s
 have hz:(numT (chkT s)).size≤8:=by
  have:=dec_len (chkT s).toNat (by omega)
  simpa [numT,ByteArray.size] using this
 unfold recT
 simp only [bsize,show bHash.size=2 from rfl,show bNl.size=1 from rfl]
 omega
def recO (L:List Df) (e:En):Option ByteArray:=(textO L e).map recT
theorem txt_size {L R:List Df} {e:En} (he:EnOk e) (h:applyE L e=some R):(txtE e).size≤4194304:=by
 obtain ⟨_,_,h1,h3,hp⟩:=applyE_parts h
 have a1:=he.1
 have a2:=he.2.1
 unfold txtE
 split
 ·rename_i hk
  obtain ⟨t,q1,q2,q3,_⟩:=hp hk
  have:=prT_size false t q2
  rw [treeL_eq q1]
  simp only [bsize,show bLet.size=4 from rfl,show bEq.size=3 from rfl]
  omega
 ·split
  ·simp only [bsize,show bDrop.size=5 from rfl];omega
  ·simp only [bsize,show bName.size=5 from rfl,show bSp.size=1 from rfl];omega
theorem implRec_any (v vb:Value) (L:List Df) (e:En) (w:World) (ht:PowTab w) (hv:DfsAt w v L) (hn:L.length≤1048576) (hs:∀ x ∈ L,DfOk x) (hvb:NdsAt w vb e.body) (he:EnOk e) :
  Calls Tryz.prog 47 #[v,.agg #[.int .i64 e.kind,.string e.name,.string e.to,vb]] w (TxtPost (recO L e) w):=by
 obtain ⟨a,cap,rfl⟩:∃ a cap,v=.slice a L.length cap:=by obtain ⟨a,cap,rfl,_⟩:=hv;exact ⟨a,cap,rfl⟩
 obtain ⟨ab,cb,rfl⟩:=hvb.slice
 cases h:applyE L e with
 | none =>
  have HA:=Lib.hid (textO_none h)
  have HR:=Lib.hid (show recO L e=none by simp [recO,textO_none h])
  clear h
  go_enter Tryz.func47,Tryz.ntmps47
  go_wp2_with (go_at_call 36;refine (implText_any _ _ L e _ (hv.keep (alloc_below _ _)) hn hs (hvb.keep (alloc_below _ _)) he).mono ?_;rintro r w1 ⟨rfl,hb1⟩;rw [HA.out];simp only [Option.isSome_none,Option.getD_none])
  go_ret2
  exact ⟨by rw [HR.out];rfl,(alloc_below _ _).trans (hb1.mono (by simp))⟩
 | some R =>
  have HA:=Lib.hid (textO_some h)
  have HR:=Lib.hid (show recO L e=some (recT (txtE e)) by simp [recO,textO_some h])
  have hz:=txt_size he h
  clear h
  go_enter Tryz.func47,Tryz.ntmps47
  go_wp2_with (first|(go_at_call 36;refine (implText_any _ _ L e _ (hv.keep (alloc_below _ _)) hn hs (hvb.keep (alloc_below _ _)) he).mono ?_;rintro r w1 ⟨rfl,hb1⟩;rw [HA.out];simp only [Option.isSome_some,Option.getD_some];have hb1':Below w.heap.size w w1:=(alloc_below _ _).trans (hb1.mono (by simp)))|(go_at_call 91;refine (record_any (txtE e) _ (ht.keep hb1') hz).mono ?_;rintro r w2 ⟨rfl,hb2⟩))
  go_ret2
  exact ⟨by rw [HR.out];rfl,hb1'.trans (hb2.mono hb1'.size)⟩
end Go.Proofs.YtldhpaflmnlcaaaGreatDoor
/-
  The table of powers of ten, out of what a row lists. Own work.
-/
namespace Go.Proofs.YtldhpaflmnlcaaaGreatDoor
theorem gPowType:(Tryz.prog.globals[3]?).map (·.type)=some 278:=by kernel_rfl
theorem cellsPow:Tryz.prog.cellsOf 278=20:=by kernel_rfl
theorem cellsU64:Tryz.prog.cellsOf 267=1:=by kernel_rfl
theorem powTab {W:World} (h:laidMetH Tryz.prog Rows.fnExactRecordOfUptoRow.laid W):PowTab W:=by
 have h2 : laidMet Tryz.prog (("internal/strconv.uint64pow10", Lib.tabData .u64 Lib.pow10Tab) :: [("strconv.ErrRange", Rows.laid_strconv_ErrRange), ("strconv.ErrSyntax", Rows.laid_strconv_ErrSyntax)]) W := (laidMet.tail (laidMet.tail h))
 exact Lib.tabIs_of_head gPow gPowType Tryz.underlying278 Tryz.underlying267 cellsU64 cellsPow h2
end Go.Proofs.YtldhpaflmnlcaaaGreatDoor
