/-
  Libraries read from their texts. No program in sight. Own work.
-/
import Derived.Test.YtldhpaflmnlcaaaGreatDoorQAA
import Derived.Lib.IndexMore
import Derived.Test.YtldhpaflmnlcaaaGreatDoorQT
import Derived.Test.YtldhpaflmnlcaaaGreatDoorQA
set_option linter.all false
set_option maxRecDepth 100000
set_option maxHeartbeats 8000000
namespace Go.Proofs.YtldhpaflmnlcaaaGreatDoor
open Go.RowKit
def splitB (b:UInt8):List UInt8 → List UInt8 → List (List UInt8)
 | acc,[]=>[acc]
 | acc,c :: r=>if c=b then acc :: splitB b [] r else splitB b (acc ++ [c]) r
theorem splitB_ne (b:UInt8):∀ (l acc:List UInt8),splitB b acc l ≠ []
 | [],acc=>by simp [splitB]
 | c :: r,acc=>by
  unfold splitB
  split
  ·simp
  ·exact splitB_ne b r _
theorem splitB_len (b:UInt8):∀ (l acc:List UInt8),(splitB b acc l).length≤l.length+1
 | [],acc=>by simp [splitB]
 | c :: r,acc=>by
  unfold splitB
  split
  ·have:=splitB_len b r [];simp;omega
  ·have:=splitB_len b r (acc ++ [c]);simp;omega
theorem splitB_none (b:UInt8):∀ (l acc:List UInt8),b ∉ l → splitB b acc l=[acc ++ l]
 | [],acc,_=>by simp [splitB]
 | c :: r,acc,h=>by
  unfold splitB
  rw [if_neg (by rintro rfl;simp at h),splitB_none b r _ (by simp at h;exact h.2)]
  simp
theorem splitB_some (b:UInt8):∀ (l x r acc:List UInt8),l=x ++ b :: r → b ∉ x → splitB b acc l=(acc ++ x) :: splitB b [] r
 | l,[],r,acc,h,_=>by subst h;simp [splitB]
 | l,c :: x,r,acc,h,hx=>by
  subst h
  simp only [List.cons_append]
  conv=>lhs;unfold splitB
  rw [if_neg (by rintro rfl;simp at hx),splitB_some b _ x r _ rfl (by simp at hx;exact hx.2)]
  simp
theorem index_one (b:UInt8):∀ l:List UInt8,(b ∉ l∧Lib.index l [b]=-1)∨∃ x r,l=x ++ b :: r∧b ∉ x∧Lib.index l [b]=(x.length:Int)
 | []=>.inl ⟨by simp,by simp [Lib.index]⟩
 | c :: l=>by
  unfold Lib.index
  by_cases h:b=c
  ·subst h
   refine .inr ⟨[],l,rfl,by simp,?_⟩
   simp
  ·have hp:([b]:List UInt8).isPrefixOf (c :: l)=false:=by simp [List.isPrefixOf,h]
   rw [hp]
   rcases index_one b l with ⟨h1,h2⟩|⟨x,r,h1,h2,h3⟩
   ·exact .inl ⟨by simp [h,h1],by rw [h2];rfl⟩
   ·refine .inr ⟨c :: x,r,by rw [h1];rfl,by simp [h,h2],?_⟩
    rw [h3]
    have:((x.length:Int) == -1)=false:=by rw [beq_eq_false_iff_ne];omega
    rw [this]
    simp
theorem cut_split (b:UInt8) (l:List UInt8):(Lib.cut l [b]=(l,[],false)∧b ∉ l)∨∃ x r,l=x ++ b :: r∧b ∉ x∧Lib.cut l [b]=(x,r,true):=by
 rcases index_one b l with ⟨h1,h2⟩|⟨x,r,h1,h2,h3⟩
 ·refine .inl ⟨?_,h1⟩
  unfold Lib.cut
  rw [h2,if_neg (by omega)]
 ·refine .inr ⟨x,r,h1,h2,?_⟩
  unfold Lib.cut
  rw [h3,if_pos (by omega)]
  subst h1
  have e1:((x.length:Int)).toNat=x.length:=by omega
  rw [e1]
  simp
def bytesOf (l:List UInt8):ByteArray:=⟨l.toArray⟩
end Go.Proofs.YtldhpaflmnlcaaaGreatDoor
/-
  strings.Cut at this dump, and where its one global lies. Own work.
-/
namespace Go.Proofs.YtldhpaflmnlcaaaGreatDoor
open Go.RowKit
def CutTab (w:World):Prop:=∃ m,w.cell? ⟨2,0,none⟩=some (.int .i64 m)
theorem CutTab.keep {w w':World} (hb:Below w.heap.size w w') (h:CutTab w):CutTab w':=⟨h.choose,cell_keep hb h.choose_spec⟩
theorem cutTab {w:World} (h:w.ShapedOpen Tryz.prog):CutTab w :=
 cell_of_shapedOpen_int (zero:=#[.int .i64 0]) (t:=3) h (of_decide_eq_true (by kernel_rfl)) (by kernel_rfl) rfl (by kernel_rfl) (by kernel_rfl) Tryz.underlying3
theorem cut_any (s sep:ByteArray) (w:World) (ht:CutTab w) (hs:s.size≤4194304) :
  Calls Tryz.prog 75 #[.string s,.string sep] w fun e w'=>e=.returned (.tuple #[.string (bytesOf (Lib.cut s.data.toList sep.data.toList).1),.string (bytesOf (Lib.cut s.data.toList sep.data.toList).2.1),.bool (Lib.cut s.data.toList sep.data.toList).2.2])∧Below w.heap.size w w':=by
 obtain ⟨m,hm⟩:=ht
 refine (Tryz.strings_Cut s sep m w (by omega) hm).mono ?_
 rintro e w' ⟨rfl,n,rfl⟩
 exact ⟨rfl,below_drewN (Below.refl _ _) _⟩
theorem cut_no {t:ByteArray} {b:UInt8} {w:World} (ht:CutTab w) (hs:t.size≤4194304) (h:Lib.cut t.data.toList [b]=(t.data.toList,[],false)) :
  Calls Tryz.prog 75 #[.string t,.string ⟨#[b]⟩] w fun e w'=>e=.returned (.tuple #[.string t,.string ⟨#[]⟩,.bool false])∧Below w.heap.size w w':=by
 refine (cut_any t ⟨#[b]⟩ w ht hs).mono ?_
 rintro e w' ⟨rfl,hb⟩
 refine ⟨?_,hb⟩
 rw [show (⟨#[b]⟩:ByteArray).data.toList=[b] from rfl,h]
 cases t;rfl
theorem cut_yes {t:ByteArray} {b:UInt8} {x r:List UInt8} {w:World} (ht:CutTab w) (hs:t.size≤4194304) (h:Lib.cut t.data.toList [b]=(x,r,true)) :
  Calls Tryz.prog 75 #[.string t,.string ⟨#[b]⟩] w fun e w'=>e=.returned (.tuple #[.string (bytesOf x),.string (bytesOf r),.bool true])∧Below w.heap.size w w':=by
 refine (cut_any t ⟨#[b]⟩ w ht hs).mono ?_
 rintro e w' ⟨rfl,hb⟩
 refine ⟨?_,hb⟩
 rw [show (⟨#[b]⟩:ByteArray).data.toList=[b] from rfl,h]
end Go.Proofs.YtldhpaflmnlcaaaGreatDoor
/-
  The reference's l1Split: the parts of a text. Own work.
-/
namespace Go.Proofs.YtldhpaflmnlcaaaGreatDoor
open Go.RowKit
theorem splitB_each (b:UInt8):∀ (l acc p:List UInt8),p ∈ splitB b acc l → p.length≤acc.length+l.length
 | [],acc,p,h=>by simp [splitB] at h;subst h;simp
 | c :: l,acc,p,h=>by
  unfold splitB at h
  split at h
  ·rcases List.mem_cons.1 h with rfl|h
   ·simp
   ·have:=splitB_each b l [] p h;simp at this ⊢;omega
  ·have:=splitB_each b l _ p h;simp at this ⊢;omega
theorem infoSt:(Tryz.prog.info? 9).map (fun i=>(i.zero,i.size,i.bytes))=some (some (.string ⟨#[]⟩),1,16):=by kernel_rfl
def ptCells (p:List UInt8):List Value:=[.string (bytesOf p)]
theorem ptCells_len (p:List UInt8):(ptCells p).length=1:=rfl
def PartsOwn (w:World) (B:Nat) (v:Value) (ps:List (List UInt8)):Prop:=w.ownsRow B 9 1 v ps.length (ps.flatMap ptCells)
def PartsAt (w:World) (v:Value) (ps:List (List UInt8)):Prop:=SlAt 1 v ps.length fun i b o=>∃ h:i<ps.length,w.cell? ⟨b,o,none⟩=some (.string (bytesOf ps[i]))
theorem PartsOwn.at {w:World} {B:Nat} {v:Value} {ps:List (List UInt8)} (h:PartsOwn w B v ps):PartsAt w v ps:=by
 refine owns_slat h _ fun i b o hi hc=>⟨hi,?_⟩
 have g:∀ j,j<1 → w.cell? ⟨b,o+j,none⟩=(ptCells ps[i])[j]?:=fun j hj=>(hc j hj).trans (flat_get ptCells_len ps i j hi hj)
 exact g 0 (by omega)
theorem PartsAt.keep {w w':World} (hb:Below w.heap.size w w') {v:Value} {ps:List (List UInt8)} (h:PartsAt w v ps):PartsAt w' v ps :=
 h.mono fun i b o ⟨hi,hr⟩=>⟨hi,cell_keep hb hr⟩
theorem parts_push {w:World} {B:Nat} {v:Value} {ps:List (List UInt8)} {t:ByteArray} (p:List UInt8) (hp:bytesOf p=t) (h:w.ownsRow B 9 1 v (ps.length+1) (ps.flatMap ptCells ++ [.string t])):PartsOwn w B v (ps ++ [p]):=by
 subst hp
 unfold PartsOwn
 simpa [List.flatMap_append,ptCells] using h
def cutL (s:ByteArray) (i j:Nat):List UInt8:=(s.extract i j).data.toList
theorem bytes_cut (s:ByteArray) (i j:Nat):bytesOf (cutL s i j)=s.extract i j:=by unfold bytesOf cutL;cases s.extract i j;rfl
theorem cutL_eq (s:ByteArray) (i j:Nat):cutL s i j=(s.data.toList.take j).drop i:=by
 unfold cutL
 simp [ByteArray.extract,ByteArray.copySlice,List.drop_take]
theorem cutL_nil (s:ByteArray) (k:Nat):cutL s k k=[]:=by rw [cutL_eq];apply List.drop_eq_nil_of_le;simp;omega
theorem cutL_snoc (s:ByteArray) (f k:Nat) (h:f≤k) (hk:k<s.size):cutL s f (k+1)=cutL s f k ++ [s[k]]:=by
 have hk':k<s.data.toList.length:=by simpa using hk
 rw [cutL_eq,cutL_eq,List.take_succ_eq_append_getElem hk',List.drop_append_of_le_length (by simp;omega)]
 rfl
theorem drop_step (s:ByteArray) (k:Nat) (hk:k<s.size):s.data.toList.drop k=s[k] :: s.data.toList.drop (k+1):=List.drop_eq_getElem_cons (by simpa using hk)
theorem split_at {b:UInt8} {acc r:List UInt8} {c:UInt8} (h:c=b):splitB b acc (c :: r)=acc :: splitB b [] r:=by conv=>lhs;unfold splitB;rw [if_pos h]
theorem split_on {b:UInt8} {acc r:List UInt8} {c:UInt8} (h:¬ c=b):splitB b acc (c :: r)=splitB b (acc ++ [c]) r:=by conv=>lhs;unfold splitB;rw [if_neg h]
theorem l1Split_any (s:ByteArray) (b:UInt8) (w:World) (hs:s.size≤4194304) :
  Calls Tryz.prog 74 #[.string s,.int .u8 b.toNat] w fun e w'=>∃ v,e=.returned v∧PartsOwn w' w.heap.size v (splitB b [] s.data.toList)∧Below w.heap.size w w':=by
 obtain ⟨R,hR⟩:∃ R,splitB b [] s.data.toList=R:=⟨_,rfl⟩
 rw [hR]
 have HR:=Lib.hid hR
 have hRl:R.length≤s.size+1:=by rw [← hR];have:=splitB_len b s.data.toList [];simpa using this
 clear hR
 obtain ⟨i0,hi,hz0,hz1,hz2⟩:=info_parts infoSt
 go_enter Tryz.func74,Tryz.ntmps74
 go_wp2
 go_loopw [5,6,7] (fun v fv i wr=>∃ (k f:Nat) (ps:List (List UInt8)),k≤s.size∧f≤k∧i=.int .i64 k∧fv=.int .i64 f∧PartsOwn wr w.heap.size v ps∧Hid (R=ps ++ splitB b (cutL s f k) (s.data.toList.drop k))∧Below w.heap.size w wr∧ps.length≤k) (fun _ _ i _=>s.size - (intOf i).toNat)
 case atStart=>exact ⟨0,0,[],Nat.zero_le _,Nat.le_refl _,rfl,rfl,⟨by simp,.inl ⟨rfl,rfl⟩⟩,(by rw [cutL_nil];exact HR.out.symm:Hid (R=[] ++ splitB b (cutL s 0 0) (s.data.toList.drop 0))),Below.refl _ _,Nat.le_refl _⟩
 case round =>
  obtain ⟨k,f,ps,hk,hfk,rfl,rfl,hown,HG,hbel,hal⟩:=hrel
  have hsz:=hbel.size
  obtain ⟨ao,cp,rfl⟩:=owns_shape' hown
  by_cases hlt:k<s.size
  ·by_cases hb:s[k]=b
   ·have hbb:((s[k].toNat:Int) == b.toNat)=true:=by rw [hb];simp
    have HS:Hid (R=(ps ++ [cutL s f k]) ++ splitB b (cutL s (k+1) (k+1)) (s.data.toList.drop (k+1))):=(show _=_ by rw [HG.out,drop_step s k hlt,split_at hb,cutL_nil];simp)
    clear HG hb
    go_wp2_with (at_builtin;refine wpList_append_own _ rfl _ _ 98 rfl w.heap.size 9 i0 _ 1 16 Tryz.underlying98 hi hz0 hz1 hz2 rfl (by decide) _ _ _ rfl (hown.alloc _) ⟨wr.heap.size,0,none⟩ 1 1 [.string (s.extract f k)] rfl rfl ?c1 ?c2 ?c3 ?c4 ?c5 ?_)
    case c1 =>
     intro i u hj
     match i,hj with
     | 0,hj=>simp at hj;subst hj;simp [Addr.add]
    case c2=>first|(intro u hu;simp at hu;subst hu;rfl)|exact rfl
    case c3=>first|omega|(unfold maxLen;omega)
    case c4=>omega
    case c5=>first|omega|(simp;omega)
    intro v' w3 hown3 hgrow _
    have hb3:Below w.heap.size w w3:=(hbel.alloc (by omega) _).grown hgrow (by simp;omega) (fun j hj=>(World.ownsRow.lt hown j hj).1)
    have hown4:=parts_push _ (bytes_cut s f k) hown3
    clear hown3 hgrow hown
    go_wp2
    go_roundw
    case rel=>exact ⟨k+1,k+1,_,by omega,Nat.le_refl _,by go_num,by go_num,hown4,HS,hb3,by simp;omega⟩
    case measure=>simp [intOf];omega
   ·have hbb:((s[k].toNat:Int) == b.toNat)=false:=by rw [u8_beq _ _ (by have:=b.toNat_lt;omega)];simpa using hb
    have HS:Hid (R=ps ++ splitB b (cutL s f (k+1)) (s.data.toList.drop (k+1))):=(show _=_ by rw [HG.out,drop_step s k hlt,split_on hb,cutL_snoc s f k hfk hlt])
    clear HG hb
    go_wp2
    go_roundw
    case rel=>exact ⟨k+1,f,ps,by omega,by omega,by go_num,rfl,hown,HS,hbel,by omega⟩
    case measure=>simp [intOf];omega
  ·obtain rfl:k=s.size:=by omega
   have HE:Hid (R=ps ++ [cutL s f s.size]):=(show _=_ by rw [HG.out,List.drop_eq_nil_of_le (by simp)];rfl)
   clear HG
   go_wp2_with (at_builtin;refine wpList_append_own _ rfl _ _ 98 rfl w.heap.size 9 i0 _ 1 16 Tryz.underlying98 hi hz0 hz1 hz2 rfl (by decide) _ _ _ rfl (hown.alloc _) ⟨wr.heap.size,0,none⟩ 1 1 [.string (s.extract f s.size)] rfl rfl ?c1 ?c2 ?c3 ?c4 ?c5 ?_)
   case c1 =>
    intro i u hj
    match i,hj with
    | 0,hj=>simp at hj;subst hj;simp [Addr.add]
   case c2=>first|(intro u hu;simp at hu;subst hu;rfl)|exact rfl
   case c3=>first|omega|(unfold maxLen;omega)
   case c4=>omega
   case c5=>first|omega|(simp;omega)
   intro v' w3 hown3 hgrow _
   have hb3:Below w.heap.size w w3:=(hbel.alloc (by omega) _).grown hgrow (by simp;omega) (fun j hj=>(World.ownsRow.lt hown j hj).1)
   have hown4:=parts_push _ (bytes_cut s f s.size) hown3
   clear hown3 hgrow hown
   go_wp2
   go_ret
   rw [HE.out]
   exact ⟨_,rfl,hown4,hb3⟩
end Go.Proofs.YtldhpaflmnlcaaaGreatDoor
/-
  Entries read from their texts. No program in sight. Own work.
-/
namespace Go.Proofs.YtldhpaflmnlcaaaGreatDoor
open Go.RowKit
theorem good_names {L:List Df} (h:good L=true):∀ d ∈ L,nameB d.name=true:=by
 have go:∀ (A P:List Df),goodGo P A=true → ∀ d ∈ A,nameB d.name=true:=by
  intro A
  induction A with
  | nil=>intro P _ d hd;cases hd
  | cons a A ih =>
   intro P hp d hd
   simp only [goodGo,Bool.and_eq_true] at hp
   rcases List.mem_cons.1 hd with rfl|hd
   ·have:=hp.1;simp only [goodAt,Bool.and_eq_true] at this;exact this.1.2
   ·exact ih _ hp.2 d hd
 simp only [good,Bool.and_eq_true] at h
 exact go L [] h.2
theorem nameB_no32 {s:ByteArray} (h:nameB s=true):(32:UInt8) ∉ s.data.toList:=by
 simp only [nameB,Bool.and_eq_true] at h
 have hw:=h.1
 have hsz:1≤s.size∧s.size≤8:=by
  rcases Decidable.em (1≤s.size∧s.size≤8) with h1|h1
  ·exact h1
  ·rw [wordB_no h1] at hw;cases hw
 have hl:lowB (s[0]'(by omega))=true:=by
  cases hl:lowB (s[0]'(by omega))
  ·rw [wordB_low hsz hl] at hw;cases hw
  ·rfl
 rw [wordB_rest0 hsz hl] at hw
 simp only [restB,List.drop_zero,List.all_eq_true] at hw
 intro hm
 have:=hw 32 hm
 exact absurd this (by decide)
theorem find_mem {L:List Df} {n:ByteArray} {d:Df} (h:findD L n=some d):d ∈ L∧d.name=n:=by
 unfold findD at h
 exact ⟨List.mem_of_find?_eq_some h,by have:=List.find?_some h;simpa using this⟩
theorem drop_name {L R:List Df} {n to:ByteArray} {b:List Nd} (h:applyE L ⟨2,n,to,b⟩=some R):nameB n=true:=by
 unfold applyE at h
 split at h
 ·rename_i hg
  dsimp only at h
  rw [if_neg (by decide),if_pos rfl] at h
  simp only [remL] at h
  split at h
  ·rename_i hf
   rcases findFrom_cases n L 0 with ⟨h1,_⟩|⟨i,hi,h1,h2⟩
   ·omega
   ·obtain ⟨h3,h4⟩:=find_mem h2
    have:=good_names hg.1 _ h3
    rwa [h4] at this
  ·cases h
 ·cases h
theorem rename_name {L R:List Df} {n to:ByteArray} {b:List Nd} (h:applyE L ⟨3,n,to,b⟩=some R):nameB to=true:=by
 unfold applyE at h
 split at h
 ·rename_i hg
  dsimp only at h
  rw [if_neg (by decide),if_neg (by decide),if_pos rfl] at h
  simp only [renL] at h
  split at h
  ·rename_i hf
   obtain ⟨hR,rfl⟩:=okL_good h
   rcases findFrom_cases n L 0 with ⟨h1,_⟩|⟨i,hi,h1,h2⟩
   ·omega
   ·obtain ⟨h3,h4⟩:=find_mem h2
    have:=good_names hR _ (List.mem_map_of_mem (f:=renD n to) h3)
    simpa [renD,h4] using this
  ·cases h
 ·cases h
def lLet:List UInt8:=[108,101,116,32]
def lDrop:List UInt8:=[100,114,111,112]
def lName:List UInt8:=[110,97,109,101]
def e0:En:=⟨0,⟨#[]⟩,⟨#[]⟩,[]⟩
def enD (d:Df):En:=⟨1,d.name,⟨#[]⟩,d.body⟩
def rawI (L:List Df) (l:List UInt8):Option En :=
 if lLet.isPrefixOf l then (defL L (bytesOf (l.drop 4))).map enD
 else if (lDrop ++ [32]).isPrefixOf l then some ⟨2,bytesOf (l.drop 5),⟨#[]⟩,[]⟩
 else if (lName ++ [32]).isPrefixOf l then (if (Lib.cut (l.drop 5) [32]).2.2 then some ⟨3,bytesOf (Lib.cut (l.drop 5) [32]).1,bytesOf (Lib.cut (l.drop 5) [32]).2.1,[]⟩ else none)
 else none
def rawS (L:List Df) (l:List UInt8):Option En :=
 if 4<l.length∧lLet.isPrefixOf l=true then (defL L (bytesOf (l.drop 4))).map enD
 else match splitB 32 [] l with
 | [a,b]=>if a=lDrop then some ⟨2,bytesOf b,⟨#[]⟩,[]⟩ else some e0
 | [a,b,c]=>if a=lName then some ⟨3,bytesOf b,bytesOf c,[]⟩ else some e0
 | _=>some e0
def checkE (L:List Df) (s:ByteArray):Option En → Option En
 | some e=>if (applyE L e).isSome=true∧txtE e=s then some e else none
 | none=>none
def entL (L:List Df) (s:ByteArray):Option En:=checkE L s (rawI L s.data.toList)
theorem check_e0 (L:List Df) (s:ByteArray):checkE L s (some e0)=none:=by
 have:applyE L e0=none:=by
  unfold applyE
  split
  ·rfl
  ·rfl
 simp [checkE,this]
theorem check_no {L:List Df} {s:ByteArray} {e:En} (h:applyE L e=none):checkE L s (some e)=none:=by simp [checkE,h]
theorem pre_split {p l:List UInt8} (hp:32 ∉ p) (h:(p ++ [32]).isPrefixOf l=true):splitB 32 [] l=p :: splitB 32 [] (l.drop (p.length+1)):=by
 obtain ⟨r,rfl⟩:=List.isPrefixOf_iff_prefix.1 h
 rw [splitB_some 32 _ p r [] (by simp) hp]
 simp
theorem splitB_first (b:UInt8):∀ (l acc x y:List UInt8) (r:List (List UInt8)),splitB b acc l=x :: y :: r → ∃ z,acc ++ l=x ++ b :: z
 | [],acc,x,y,r,h=>by simp [splitB] at h
 | c :: l,acc,x,y,r,h=>by
  unfold splitB at h
  split at h
  ·rename_i hc
   subst hc
   simp only [List.cons.injEq] at h
   exact ⟨l,by rw [h.1]⟩
  ·obtain ⟨z,hz⟩:=splitB_first b l _ x y r h
   exact ⟨z,by rw [← hz];simp⟩
theorem split_pre {l a y:List UInt8} {r:List (List UInt8)} (h:splitB 32 [] l=a :: y :: r):(a ++ [32]).isPrefixOf l=true:=by
 obtain ⟨z,hz⟩:=splitB_first 32 l [] a y r h
 rw [List.isPrefixOf_iff_prefix]
 exact ⟨z,by simpa using hz.symm⟩
theorem defL_nil (L:List Df):defL L (bytesOf [])=none:=by
 have:tokL (bytesOf [])=.ok []:=by
  unfold tokL
  rw [if_neg (by decide)]
  unfold tokFrom
  rfl
 simp [defL,pDefL,this]
theorem ent_eq {L:List Df} (s:ByteArray):checkE L s (rawS L s.data.toList)=entL L s:=by
 unfold entL
 generalize s.data.toList=l
 unfold rawS rawI
 by_cases hlet:lLet.isPrefixOf l=true
 ·rw [if_pos hlet]
  by_cases h4:4<l.length
  ·rw [if_pos ⟨h4,hlet⟩]
  ·rw [if_neg (fun h=>h4 h.1)]
   obtain ⟨r,hr0⟩:=List.isPrefixOf_iff_prefix.1 hlet
   have hr:r=[]:=by cases r with|nil=>rfl|cons a r=>rw [← hr0] at h4;simp [lLet] at h4
   rw [hr] at hr0
   rw [← hr0]
   rw [show List.drop 4 (lLet ++ ([]:List UInt8))=[] from rfl,defL_nil,show splitB 32 [] (lLet ++ [])=[[108,101,116],[]] from by decide]
   simp only
   rw [if_neg (by decide),check_e0]
   rfl
 rw [if_neg hlet,if_neg (fun h=>hlet h.2)]
 by_cases hd:(lDrop ++ [32]).isPrefixOf l=true
 ·rw [if_pos hd,pre_split (by decide) hd,show lDrop.length+1=5 from rfl]
  generalize l.drop 5=r
  rcases cut_split 32 r with ⟨_,h1⟩|⟨x,y,h1,h2,_⟩
  ·rw [splitB_none 32 r [] h1]
   simp
  ·have hno:applyE L ⟨2,bytesOf r,⟨#[]⟩,[]⟩=none:=by
    cases ha:applyE L ⟨2,bytesOf r,⟨#[]⟩,[]⟩ with
    | none=>rfl
    | some R =>
     have:=nameB_no32 (drop_name ha)
     rw [h1] at this
     simp [bytesOf] at this
   rw [check_no hno,splitB_some 32 r x y [] h1 h2]
   have hne:=splitB_ne 32 y []
   cases hs:splitB 32 [] y with
   | nil=>exact absurd hs hne
   | cons a t =>
    cases t with
    | nil=>simp only [List.nil_append];rw [if_neg (by decide),check_e0]
    | cons b t=>simp only [List.nil_append];rw [check_e0]
 rw [if_neg hd]
 by_cases hnm:(lName ++ [32]).isPrefixOf l=true
 ·rw [if_pos hnm,pre_split (by decide) hnm,show lName.length+1=5 from rfl]
  generalize l.drop 5=r
  rcases cut_split 32 r with ⟨h1,h2⟩|⟨x,y,h1,h2,h3⟩
  ·rw [h1,splitB_none 32 r [] h2]
   simp only [List.nil_append]
   rw [if_neg (by decide),check_e0]
   rfl
  ·rw [h3,splitB_some 32 r x y [] h1 h2]
   simp only [List.nil_append,if_true]
   rcases cut_split 32 y with ⟨_,h4⟩|⟨p,q,h4,h5,_⟩
   ·rw [splitB_none 32 y [] h4]
    simp
   ·have hno:applyE L ⟨3,bytesOf x,bytesOf y,[]⟩=none:=by
     cases ha:applyE L ⟨3,bytesOf x,bytesOf y,[]⟩ with
     | none=>rfl
     | some R =>
      have:=nameB_no32 (rename_name ha)
      rw [h4] at this
      simp [bytesOf] at this
    rw [check_no hno,splitB_some 32 y p q [] h4 h5]
    have hne:=splitB_ne 32 q []
    cases hs:splitB 32 [] q with
    | nil=>exact absurd hs hne
    | cons a t=>simp only [List.nil_append];rw [check_e0]
 rw [if_neg hnm]
 have hz:∀ o:Option En,o=some e0 → checkE L s o=checkE L s none:=by rintro o rfl;rw [check_e0];rfl
 apply hz
 split
 ·rename_i a b hs
  rw [if_neg]
  rintro rfl
  exact hd (split_pre hs)
 ·rename_i a b c hs
  rw [if_neg]
  rintro rfl
  exact hnm (split_pre hs)
 ·rfl
theorem ent_parts {L:List Df} {s:ByteArray} {e:En} (h:entL L s=some e):∃ R,applyE L e=some R∧txtE e=s:=by
 unfold entL at h
 cases hr:rawI L s.data.toList with
 | none=>rw [hr] at h;cases h
 | some x =>
  rw [hr] at h
  simp only [checkE] at h
  split at h
  ·rename_i hc
   obtain rfl:=Option.some.inj h
   obtain ⟨R,hR⟩:=Option.isSome_iff_exists.1 hc.1
   exact ⟨R,hR,hc.2⟩
  ·cases h
end Go.Proofs.YtldhpaflmnlcaaaGreatDoor
