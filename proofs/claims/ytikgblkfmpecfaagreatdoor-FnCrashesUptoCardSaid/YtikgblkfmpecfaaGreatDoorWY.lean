/-
  Checks and records of texts, and RecordOf, the program's and the reference's. Own work.
-/
import Derived.Test.YtikgblkfmpecfaaGreatDoorWX
import Derived.Lib.LaidTab
import Derived.Lib.AppendIntMem
set_option linter.all false
set_option maxRecDepth 100000
set_option maxHeartbeats 8000000
namespace Go.Proofs.YtikgblkfmpecfaaGreatDoor
open Go.RowKit
def iM (w:World):Prop:=Lib.TabIs Tryz.prog w "internal/strconv.uint64pow10" .u64 Lib.pow10Tab
theorem Oz : Tryz.prog.globalNamed "internal/strconv.uint64pow10"=some 3:=by kernel_rfl
theorem iM.keep {w w':World} (hb:Below w.heap.size w w') (h:iM w):iM w':=by
 unfold iM Lib.TabIs World.var? at *;simp only[Oz,Option.bind_some]at h ⊢;have hlt:3<w.heap.size:=by
  rcases Nat.lt_or_ge 3 w.heap.size with h'|h'
  ·exact h'
  ·rw[Array.getElem?_eq_none h']at h;simp at h
 rw[hb.block _ hlt];exact h
theorem ag9 (v:Int) (w:World) (ht:iM w) (h0:0<=v) (h1:v<=1000000) :
  Calls Tryz.prog 131 #[.int .i64 v] w λe w'=>e=.returned (.string (eG v))/\Below w.heap.size w w' :=
 (Tryz.strconv_Itoa v (by omega) (by omega) w ht).mono λe w' ⟨h,k,os,hw⟩=>⟨by rw[h];unfold eG Lib.itoa;rw[if_neg (by omega)],by rw[hw];exact Lib.below_grow _ _ (Nat.le_refl _) _ _⟩
theorem aay (s:ByteArray) (k:Nat) (h:k<s.size) (n:Int):chk (s.data.toList.drop k) n=chk (s.data.toList.drop (k+1)) ((131*n+(s[k].toNat:Int)+1) % 65521):=by
 rw[List.drop_eq_getElem_cons (by simpa using h)];rfl
theorem chk_end (s:ByteArray) (n:Int):chk (s.data.toList.drop s.size) n=n:=by
 rw[List.drop_eq_nil_of_le (by simp)];rfl
theorem aha (s:ByteArray) (w:World) (hs:s.size<=9223372036854775807) :
  Calls Tryz.prog 132 #[.string s] w λe w'=>e=.returned (.int .i64 (fO s))/\w=w':=by
 go_enter Tryz.func132,Tryz.ntmps132;go_wp2;go_loop [3,7] (λnv i=>∃(k:Nat) (n:Int),k<=s.size/\i=.int .i64 k/\nv=.int .i64 n/\0<=n/\n<=65520/\Hid (fO s=chk (s.data.toList.drop k) n)) (λ_ i=>s.size-(intOf i).toNat)
 case atStart=>exact⟨0,7,Nat.zero_le _,rfl,rfl,by omega,by omega,(by simp[Hid,fO]:Hid (fO s=chk (s.data.toList.drop 0) 7))⟩
 case round =>
  obtain⟨k,n,hk,rfl,rfl,h0,h1,HC⟩:=hrel
  by_cases hlt:k<s.size
  ·have HS:=Lib.hid (HC.out.trans (aay s k hlt n))
   have hbt:s[k].toNat<256:=s[k].toNat_lt
   clear HC
   go_wp2
   go_round
   case rel=>exact⟨k+1,_,by omega,by go_num,rfl,by omega,by omega,HS⟩
   case measure=>simp[intOf];omega
  ·obtain rfl:k=s.size:=by omega
   go_wp2
   go_ret
   exact⟨wO (by rw[HC.out,chk_end]),rfl⟩
theorem ahb (s:ByteArray) (w:World) (hs:s.size<=9223372036854775807) :
  Calls Tryz.prog 107 #[.string s] w λe w'=>e=.returned (.int .i64 (fO s))/\w=w':=by
 go_enter Tryz.func107,Tryz.ntmps107;go_wp2;go_loop [3,4] (λnv i=>∃(k:Nat) (n:Int),k<=s.size/\i=.int .i64 k/\nv=.int .i64 n/\0<=n/\n<=65520/\Hid (fO s=chk (s.data.toList.drop k) n)) (λ_ i=>s.size-(intOf i).toNat)
 case atStart=>exact⟨0,7,Nat.zero_le _,rfl,rfl,by omega,by omega,(by simp[Hid,fO]:Hid (fO s=chk (s.data.toList.drop 0) 7))⟩
 case round =>
  obtain⟨k,n,hk,rfl,rfl,h0,h1,HC⟩:=hrel
  by_cases hlt:k<s.size
  ·have HS:=Lib.hid (HC.out.trans (aay s k hlt n))
   have hbt:s[k].toNat<256:=s[k].toNat_lt
   clear HC
   go_wp2
   go_round
   case rel=>exact⟨k+1,_,by omega,by go_num,rfl,by omega,by omega,HS⟩
   case measure=>simp[intOf];omega
  ·obtain rfl:k=s.size:=by omega
   go_wp2
   go_ret
   exact⟨wO (by rw[HC.out,chk_end]),rfl⟩
theorem SV (s:ByteArray) (w:World) (ht:iM w) (hs:s.size<=4194304) :
  Calls Tryz.prog 72 #[.string s] w λe w'=>e=.returned (.string (dV s))/\Below w.heap.size w w':=by
 obtain⟨h0,h1⟩:=D_ s;have hz:(eG (fO s)).size<=8:=by
  have:=MP (fO s).toNat (by omega)
  simpa[eG,ByteArray.size]using this
 go_enter Tryz.func72,Tryz.ntmps72;go_wp2_with (first|(go_at_call 132;refine(aha s _ (by omega)).mono ?_;rintro e w1⟨rfl,rfl⟩)|(go_at_call 131;refine(ag9 (fO s) _ ht h0 (by omega)).mono ?_;rintro e w2⟨rfl,hb2⟩))
 go_ret
 exact⟨rfl,hb2⟩
theorem FT (s:ByteArray) (w:World) (hs:s.size<=4194304) :
  Calls Tryz.prog 57 #[.string s] w λe w'=>e=.returned (.string (dV s))/\Below w.heap.size w w':=by
 obtain⟨h0,h1⟩:=D_ s;have hz:(eG (fO s)).size<=8:=by
  have:=MP (fO s).toNat (by omega)
  simpa[eG,ByteArray.size]using this
 have hnum:∀w,Calls Tryz.prog 106 #[.int .i64 (fO s)] w λe w'=>e=.returned (.string (eG (fO s)))/\Below w.heap.size w w':=λw=>by
  obtain⟨k,hk⟩:=Int.eq_ofNat_of_zero_le h0;rw[hk];exact aax k w (by omega)
 go_enter Tryz.func57,Tryz.ntmps57;go_wp2_with (first|(go_at_call 107;refine(ahb s _ (by omega)).mono ?_;rintro e w1⟨rfl,rfl⟩)|(go_at_call 106;refine(hnum _).mono ?_;rintro e w2⟨rfl,hb2⟩))
 go_ret
 exact⟨rfl,hb2⟩
theorem OV (s:ByteArray):(dV s).size<=s.size+16:=by
 obtain⟨h0,h1⟩:=D_ s;have hz:(eG (fO s)).size<=8:=by
  have:=MP (fO s).toNat (by omega)
  simpa[eG,ByteArray.size]using this
 unfold dV;simp only[bsize,show LV.size=2 from rfl,show LW.size=1 from rfl];omega
def kD (L:List Df) (e:En):Option ByteArray:=(lH L e).map dV
theorem FP {L R:List Df} {e:En} (he:dW e) (h:aJ L e=some R):(aH e).size<=4194304:=by
 obtain⟨_,_,h1,h3,hp⟩:=EP h;have a1:=he.1;have a2:=he.2.1;unfold aH;split
 ·rename_i hk
  obtain⟨t,q1,q2,q3,_⟩:=hp hk;have:=ou false t q2;rw[EK q1];simp only[bsize,show Ia.size=4 from rfl,show kT.size=3 from rfl];omega
 ·split
  ·simp only[bsize,show Ib.size=5 from rfl];omega
  ·simp only[bsize,show bName.size=5 from rfl,show iH.size=1 from rfl];omega
theorem Jz (v vb:Value) (L:List Df) (e:En) (w:World) (ht:iM w) (hv:aG w v L) (hn:L.length<=1048576) (hs:∀x∈L,dN x) (hvb:aZ w vb e.body) (he:dW e) :
  Calls Tryz.prog 35 #[v,.agg #[.int .i64 e.kind,.string e.name,.string e.to,vb]] w (wu (kD L e) w):=by
 obtain⟨a,cap,rfl⟩:∃a cap,v=.slice a L.length cap:=by obtain⟨a,cap,rfl,_⟩:=hv;exact⟨a,cap,rfl⟩
 obtain⟨ab,cb,rfl⟩:=hvb.slice;cases h:aJ L e with
 | none =>
  have HA:=Lib.hid (Ap h)
  have HR:=Lib.hid (show kD L e=none by simp[kD,Ap h])
  clear h
  go_enter Tryz.func35,Tryz.ntmps35
  go_wp2_with (go_at_call 22;refine(sG _ _ L e _ (hv.keep (aj _ _)) hn hs (hvb.keep (aj _ _)) he).mono ?_;rintro r w1⟨rfl,hb1⟩;rw[HA.out];simp only[Option.isSome_none,Option.getD_none])
  go_ret2
  exact⟨by rw[HR.out];rfl,(aj _ _).trans (hb1.mono (by simp))⟩
 | some R =>
  have HA:=Lib.hid (vN h)
  have HR:=Lib.hid (show kD L e=some (dV (aH e))by simp[kD,vN h])
  have hz:=FP he h
  clear h
  go_enter Tryz.func35,Tryz.ntmps35
  go_wp2_with (first|(go_at_call 22;refine(sG _ _ L e _ (hv.keep (aj _ _)) hn hs (hvb.keep (aj _ _)) he).mono ?_;rintro r w1⟨rfl,hb1⟩;rw[HA.out];simp only[Option.isSome_some,Option.getD_some];have hb1':Below w.heap.size w w1:=(aj _ _).trans (hb1.mono (by simp)))|(go_at_call 72;refine(SV (aH e) _ (ht.keep hb1') hz).mono ?_;rintro r w2⟨rfl,hb2⟩))
  go_ret2
  exact⟨by rw[HR.out];rfl,hb1'.trans (hb2.mono hb1'.size)⟩
end Go.Proofs.YtikgblkfmpecfaaGreatDoor
