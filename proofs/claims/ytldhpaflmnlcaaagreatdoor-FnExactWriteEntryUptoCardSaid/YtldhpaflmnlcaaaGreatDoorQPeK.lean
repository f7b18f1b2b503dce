/-
  The program's ParseEntry, the arms joined. Own work.
-/
import Derived.Test.YtldhpaflmnlcaaaGreatDoorQPeJ
set_option linter.all false
set_option maxRecDepth 100000
set_option maxHeartbeats 8000000
namespace Go.Proofs.YtldhpaflmnlcaaaGreatDoor
open Go.RowKit
theorem defL_typed {L:List Df} {s:ByteArray} {d:Df} (h:defL L s=some d):(∃ t,typedL (leafIn L) d.body=some t)∧d.name.size≤40000:=by
 unfold defL at h
 cases hp:pDefL L s with
 | none=>rw [hp] at h;cases h
 | some d' =>
  rw [hp] at h
  simp only at h
  split at h
  ·obtain rfl:=Option.some.inj h
   refine ⟨?_,pDef_name hp⟩
   unfold pDefL at hp
   cases ht:tokL s with
   | error p=>rw [ht] at hp;cases hp
   | ok ts =>
    rw [ht] at hp
    cases ts with
    | nil=>cases hp
    | cons t r =>
     simp only at hp
     split at hp
     ·cases hw:wholeL L s.size r.tail with
      | error p=>rw [hw] at hp;cases hp
      | ok ns =>
       rw [hw] at hp
       simp only [Option.some.injEq] at hp
       have hok:=(tokL_ok ht).1
       obtain ⟨x,hx⟩:=whole_typed (ts:=r.tail) (by rw [← List.drop_one];exact hok.tail.drop 1) hw
       subst hp
       exact ⟨x,hx⟩
     ·cases hp
  ·cases h
theorem enD_ok {L:List Df} {s:ByteArray} {d:Df} (hg:good L=true) (h:defL L s=some d):EnOk (enD d):=by
 obtain ⟨⟨t,ht⟩,hn⟩:=defL_typed h
 have hl:=typedL_len ht
 have h8:∀ x ∈ L,x.name.size≤8:=fun x hx=>nameB_size (good_names hg x hx)
 have hgo:∃ st,typedGo (leafIn L) d.body []=some st:=by
  unfold typedL at ht
  split at ht
  ·cases hq:typedGo (leafIn L) d.body [] with
   | none=>rw [hq] at ht;cases ht
   | some st=>exact ⟨st,rfl⟩
  ·cases ht
 obtain ⟨st,hst⟩:=hgo
 refine ⟨?_,?_,?_⟩
 ·show d.name.size≤1048576;omega
 ·show (0:Nat)≤1048576;omega
 ·exact ⟨fun n hn=>by have:=typedGo_names h8 d.body [] st hst n hn;omega,by show d.body.length≤1048576;omega⟩
theorem enS_ok {k:Int} {a b:ByteArray} (ha:a.size≤1048576) (hb:b.size≤1048576):EnOk ⟨k,a,b,[]⟩:=⟨ha,hb,⟨fun d hd=>absurd hd (List.not_mem_nil),Nat.zero_le _⟩⟩
theorem bytes_len (l:List UInt8):(bytesOf l).size=l.length:=by simp [bytesOf,ByteArray.size]
theorem drop_size (s:ByteArray) (n:Nat):(bytesOf (s.data.toList.drop n)).size≤s.size:=by
 rw [bytes_len,List.length_drop,Array.length_toList]
 exact Nat.sub_le _ _
def entR (L:List Df) (s:ByteArray):Option En:=if good L=true then entL L s else none
theorem implParseEntry_any (v:Value) (L:List Df) (s:ByteArray) (w:World) (hv:DfsAt w v L) (hn:L.length≤1048576) (hLs:∀ d ∈ L,DfOk d) (ht:CutTab w) (hs:s.size≤1048576) :
  Calls Tryz.prog 49 #[v,.string s] w (EntP (entR L s) w):=by
 unfold entR
 cases hg:good L
 ·rw [if_neg (by decide)]
  exact implParse_bad v L s w hv hn hLs hg
 rw [if_pos rfl]
 have hds:=drop_size s
 unfold entL rawI
 by_cases h1:lLet.isPrefixOf s.data.toList=true
 ·rw [if_pos h1]
  obtain ⟨X,hX⟩:∃ X,bytesOf (s.data.toList.drop 4)=X:=⟨_,rfl⟩
  have hXs:X.size≤1048576:=by have:=hds 4;rw [hX] at this;omega
  rw [hX]
  cases hd:defL L X with
  | none=>exact implParse_1 v L s X (enD df0) false _ w hv hg ht h1 hX (fun v1 w1 hv1 _=>by have:=parse4_any v1 L X w1 hv1 hg (by omega);rw [hd] at this;exact this) (fun h=>by cases h) rfl
  | some d=>exact implParse_1 v L s X (enD d) true _ w hv hg ht h1 hX (fun v1 w1 hv1 _=>by have:=parse4_any v1 L X w1 hv1 hg (by omega);rw [hd] at this;exact this) (fun _=>enD_ok hg hd) rfl
 have h1':wLet.data.toList.isPrefixOf s.data.toList=false:=Bool.eq_false_iff.2 h1
 rw [if_neg h1]
 by_cases h2:(lDrop ++ [32]).isPrefixOf s.data.toList=true
 ·rw [if_pos h2]
  obtain ⟨X,hX⟩:∃ X,bytesOf (s.data.toList.drop 5)=X:=⟨_,rfl⟩
  have hXs:X.size≤1048576:=by have:=hds 5;rw [hX] at this;omega
  rw [hX]
  exact implParse_2 v L s X ⟨2,X,⟨#[]⟩,[]⟩ true _ w hv hg ht h1' h2 hX (fun v1 w1 hv1 _=>by obtain ⟨a,c,rfl,_⟩:=hv1;exact parse8_any _ _ _ _ rfl X w1) (fun _=>enS_ok hXs (by decide)) rfl
 have h2':wDrop.data.toList.isPrefixOf s.data.toList=false:=Bool.eq_false_iff.2 h2
 rw [if_neg h2]
 by_cases h3:(lName ++ [32]).isPrefixOf s.data.toList=true
 ·rw [if_pos h3]
  obtain ⟨X,hX⟩:∃ X,bytesOf (s.data.toList.drop 5)=X:=⟨_,rfl⟩
  have hXs:X.size≤1048576:=by have:=hds 5;rw [hX] at this;omega
  have hXl:s.data.toList.drop 5=X.data.toList:=by rw [← hX];simp [bytesOf]
  rw [hXl]
  rcases cut_split 32 X.data.toList with ⟨hc,_⟩|⟨x,r,hxr,_,hc⟩
  ·rw [hc]
   exact implParse_3 v L s X ⟨3,X,⟨#[]⟩,[]⟩ false _ w hv hg ht h1' h2' h3 hX (fun v1 w1 hv1 ht1=>by obtain ⟨a,c,rfl,_⟩:=hv1;exact parse12_no _ _ _ _ rfl X w1 ht1 (by omega) hc) (fun h=>by cases h) rfl
  ·rw [hc]
   have hl:=congrArg List.length hxr
   have hXz:X.data.toList.length=X.size:=by simp
   simp only [List.length_append,List.length_cons] at hl
   have hxs:(bytesOf x).size≤1048576:=by rw [bytes_len];omega
   have hrs:(bytesOf r).size≤1048576:=by rw [bytes_len];omega
   exact implParse_3 v L s X ⟨3,bytesOf x,bytesOf r,[]⟩ true _ w hv hg ht h1' h2' h3 hX (fun v1 w1 hv1 ht1=>by obtain ⟨a,c,rfl,_⟩:=hv1;exact parse12_yes _ _ _ _ rfl X x r w1 ht1 (by omega) hc) (fun _=>enS_ok hxs hrs) rfl
 have h3':wName.data.toList.isPrefixOf s.data.toList=false:=Bool.eq_false_iff.2 h3
 rw [if_neg h3]
 exact implParse_0 v L s w hv hg h1' h2' h3'
end Go.Proofs.YtldhpaflmnlcaaaGreatDoor
