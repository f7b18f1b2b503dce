/-
  Tokens and parsing without a program in sight. Own work.
-/
import Derived.Test.YtbljmfcifljkaaaGreatDoorYC
import Derived.Test.YtbljmfcifljkaaaGreatDoorYE
import Derived.Test.YtbljmfcifljkaaaGreatDoorYT
import Derived.Lib.Atoi
import Derived.Test.YtbljmfcifljkaaaGreatDoorYF
set_option linter.all false
set_option maxRecDepth 100000
set_option maxHeartbeats 8000000
namespace Go.Proofs.YtbljmfcifljkaaaGreatDoor
open Go.RowKit
structure Tk where
 kind:Int
 text:ByteArray
 pos:Int
 deriving DecidableEq
def endOf (p:UInt8 → Bool) (s:ByteArray) (i:Nat):Nat:=i+((s.data.toList.drop i).takeWhile p).length
theorem endOf_step {p:UInt8 → Bool} {s:ByteArray} {i:Nat} (h:i<s.size) (hp:p s[i]=true):endOf p s i=endOf p s (i+1):=by
 unfold endOf
 rw [List.drop_eq_getElem_cons (by simpa using h)]
 have e:s.data.toList[i]'(by simpa using h)=s[i]:=rfl
 rw [List.takeWhile_cons,e,if_pos hp,List.length_cons]
 omega
theorem endOf_stop {p:UInt8 → Bool} {s:ByteArray} {i:Nat} (h:i<s.size) (hp:p s[i]=false):endOf p s i=i:=by
 unfold endOf
 rw [List.drop_eq_getElem_cons (by simpa using h)]
 have e:s.data.toList[i]'(by simpa using h)=s[i]:=rfl
 rw [List.takeWhile_cons,e,if_neg (by simp [hp])]
 simp
theorem endOf_end {p:UInt8 → Bool} {s:ByteArray} {i:Nat} (h:s.size≤i):endOf p s i=i:=by
 unfold endOf
 rw [List.drop_eq_nil_of_le (by simpa using h)]
 simp
theorem endOf_le {p:UInt8 → Bool} {s:ByteArray} {i:Nat} (h:i≤s.size):i≤endOf p s i∧endOf p s i≤s.size:=by
 unfold endOf
 refine ⟨by omega,?_⟩
 have h1:=(List.takeWhile_sublist p (l:=s.data.toList.drop i)).length_le
 have h2:(s.data.toList.drop i).length=s.size - i:=by simp
 omega
def symB (b:UInt8):Bool:=b == 59 || b == 42 || b == 40 || b == 41 || b == 61 || b == 58
def cutB (s:ByteArray) (i j:Nat):ByteArray:=s.extract i j
def tokFrom (s:ByteArray) (i:Nat):Except (Int × Int) (List Tk) :=
 if h:i<s.size then
  if s[i]=32∨s[i]=10 then tokFrom s (i+1)
  else if lowB s[i] then
   (have:i<endOf lodB s (i+1):=by have:=(endOf_le (p:=lodB) (s:=s) (i:=i+1) h).1;omega
    match tokFrom s (endOf lodB s (i+1)) with
    | .ok r=>.ok (⟨1,cutB s i (endOf lodB s (i+1)),i⟩ :: r)
    | .error e=>.error e)
  else if digB s[i] then
   if endOf digB s (i+1) - i > 6∨(endOf digB s (i+1) - i > 1∧s[i]=48) then .error (i,3)
   else
    (have:i<endOf digB s (i+1):=by have:=(endOf_le (p:=digB) (s:=s) (i:=i+1) h).1;omega
     match tokFrom s (endOf digB s (i+1)) with
     | .ok r=>.ok (⟨2,cutB s i (endOf digB s (i+1)),i⟩ :: r)
     | .error e=>.error e)
  else if symB s[i] then
   (match tokFrom s (i+1) with
    | .ok r=>.ok (⟨3,cutB s i (i+1),i⟩ :: r)
    | .error e=>.error e)
  else .error (i,2)
 else .ok []
termination_by s.size - i
def tokL (s:ByteArray):Except (Int × Int) (List Tk):=if s.size > 40000 then .error (0,1) else tokFrom s 0
abbrev Rd:=List (Nd × Int)
def numV (s:ByteArray):Int:=s.data.toList.foldl (fun n b=>10 * n+((b.toNat:Int) - 48)) 0
def isSym (ts:List Tk) (b:UInt8):Bool:=match ts with
 | t :: _=>decide (t.kind=3) && decide (t.text=⟨#[b]⟩)
 | []=>false
structure PRes where
 bad:Bool
 rest:List Tk
 out:Rd
def nodeOf (w:ByteArray):Nd:=⟨kindOfW w,0,if kindOfW w=17 then w else ⟨#[]⟩⟩
mutual
def pPart (f:Nat) (ts:List Tk) (out:Rd):PRes:=match f with
 | 0=>⟨true,ts,out⟩
 | f+1 =>
  if isSym ts 40 then
   (match pTerm f ts.tail out with
    | ⟨true,r,o⟩=>⟨true,r,o⟩
    | ⟨false,r,o⟩=>if isSym r 41 then ⟨false,r.tail,o⟩ else ⟨true,r,o⟩)
  else match ts with
   | []=>⟨true,[],out⟩
   | t :: r =>
    if t.kind=1 then
     (if kindOfW t.text=1∨kindOfW t.text=7∨kindOfW t.text=13 then
      (match r with
       | []=>⟨true,[],out⟩
       | n :: r'=>if n.kind=2 then ⟨false,r',out ++ [(⟨kindOfW t.text,numV n.text,⟨#[]⟩⟩,t.pos)]⟩ else ⟨true,r,out⟩)
     else ⟨false,r,out ++ [(nodeOf t.text,t.pos)]⟩)
    else ⟨true,ts,out⟩
 termination_by (f,0)
def pRow (f:Nat) (ts:List Tk) (out:Rd):PRes:=match pPart f ts out with
 | ⟨true,r,o⟩=>⟨true,r,o⟩
 | ⟨false,r,o⟩=>pRows f r o
 termination_by (f,2)
def pRows (f:Nat) (ts:List Tk) (out:Rd):PRes:=match f with
 | 0=>⟨isSym ts 42,ts,out⟩
 | f+1 =>
  if isSym ts 42 then
   (match pPart f ts.tail out with
    | ⟨true,r,o⟩=>⟨true,r,o⟩
    | ⟨false,r,o⟩=>pRows f r (o ++ [(⟨16,0,⟨#[]⟩⟩,((ts.head?.map (·.pos)).getD 0))]))
  else ⟨false,ts,out⟩
 termination_by (f,1)
def pTerm (f:Nat) (ts:List Tk) (out:Rd):PRes:=match pRow f ts out with
 | ⟨true,r,o⟩=>⟨true,r,o⟩
 | ⟨false,r,o⟩=>pTerms f r o
 termination_by (f,5)
def pTerms (f:Nat) (ts:List Tk) (out:Rd):PRes:=match f with
 | 0=>⟨isSym ts 59,ts,out⟩
 | f+1 =>
  if isSym ts 59 then
   (match pRow f ts.tail out with
    | ⟨true,r,o⟩=>⟨true,r,o⟩
    | ⟨false,r,o⟩=>pTerms f r (o ++ [(⟨15,0,⟨#[]⟩⟩,((ts.head?.map (·.pos)).getD 0))]))
  else ⟨false,ts,out⟩
 termination_by (f,4)
end
end Go.Proofs.YtbljmfcifljkaaaGreatDoor
/-
  The program's tokenize. Own work.
-/
namespace Go.Proofs.YtbljmfcifljkaaaGreatDoor
open Go.RowKit
def tkCells (t:Tk):List Value:=[.int .i64 t.kind,.string t.text,.int .i64 t.pos]
theorem tkCells_len (t:Tk):(tkCells t).length=3:=rfl
theorem infoTk:(Tryz.prog.info? 87).map (fun i=>(i.zero,i.size,i.bytes))=some (some (.agg #[.int .i64 0,.string ⟨#[]⟩,.int .i64 0]),3,32):=by kernel_rfl
def TksOwn (w:World) (B:Nat) (v:Value) (ts:List Tk):Prop:=w.ownsRow B 87 3 v ts.length (ts.flatMap tkCells)
def glue (acc:List Tk):Except (Int × Int) (List Tk) → Except (Int × Int) (List Tk)
 | .ok r=>.ok (acc ++ r)
 | .error e=>.error e
theorem glue_nil (x:Except (Int × Int) (List Tk)):glue [] x=x:=by cases x <;> simp [glue]
section
variable {s:ByteArray} {k:Nat}
theorem tok_end (h:s.size≤k):tokFrom s k=.ok []:=by rw [tokFrom,dif_neg (by omega)]
theorem tok_blank (h:k<s.size) (hb:s[k]=32∨s[k]=10):tokFrom s k=tokFrom s (k+1):=by
 conv=>lhs;rw [tokFrom]
 rw [dif_pos h,if_pos hb]
theorem tok_word (h:k<s.size) (hb:¬ (s[k]=32∨s[k]=10)) (hl:lowB s[k]=true) (acc:List Tk):glue acc (tokFrom s k)=glue (acc ++ [⟨1,cutB s k (endOf lodB s (k+1)),k⟩]) (tokFrom s (endOf lodB s (k+1))):=by
 conv=>lhs;rw [tokFrom]
 rw [dif_pos h,if_neg hb,if_pos hl]
 cases tokFrom s (endOf lodB s (k+1)) <;> simp [glue]
theorem tok_num (h:k<s.size) (hb:¬ (s[k]=32∨s[k]=10)) (hl:lowB s[k]=false) (hd:digB s[k]=true) (hg:¬ (endOf digB s (k+1) - k > 6∨(endOf digB s (k+1) - k > 1∧s[k]=48))) (acc:List Tk) :
  glue acc (tokFrom s k)=glue (acc ++ [⟨2,cutB s k (endOf digB s (k+1)),k⟩]) (tokFrom s (endOf digB s (k+1))):=by
 conv=>lhs;rw [tokFrom]
 rw [dif_pos h,if_neg hb,if_neg (by simp [hl]),if_pos hd,if_neg hg]
 cases tokFrom s (endOf digB s (k+1)) <;> simp [glue]
theorem tok_long (h:k<s.size) (hb:¬ (s[k]=32∨s[k]=10)) (hl:lowB s[k]=false) (hd:digB s[k]=true) (hg:endOf digB s (k+1) - k > 6∨(endOf digB s (k+1) - k > 1∧s[k]=48)):tokFrom s k=.error (k,3):=by
 rw [tokFrom,dif_pos h,if_neg hb,if_neg (by simp [hl]),if_pos hd,if_pos hg]
theorem tok_sym (h:k<s.size) (hb:¬ (s[k]=32∨s[k]=10)) (hl:lowB s[k]=false) (hd:digB s[k]=false) (hs:symB s[k]=true) (acc:List Tk) :
  glue acc (tokFrom s k)=glue (acc ++ [⟨3,cutB s k (k+1),k⟩]) (tokFrom s (k+1)):=by
 conv=>lhs;rw [tokFrom]
 rw [dif_pos h,if_neg hb,if_neg (by simp [hl]),if_neg (by simp [hd]),if_pos hs]
 cases tokFrom s (k+1) <;> simp [glue]
theorem tok_bad (h:k<s.size) (hb:¬ (s[k]=32∨s[k]=10)) (hl:lowB s[k]=false) (hd:digB s[k]=false) (hs:symB s[k]=false):tokFrom s k=.error (k,2):=by
 rw [tokFrom,dif_pos h,if_neg hb,if_neg (by simp [hl]),if_neg (by simp [hd]),if_neg (by simp [hs])]
end
def errV (p:Int × Int):Value:=.iface 241 (.agg #[.int .i64 p.1,.int .i64 p.2])
def TokPost (r:Except (Int × Int) (List Tk)) (w:World) (e:Ending) (w':World):Prop :=
 match r with
 | .ok ts=>∃ v,e=.returned (.tuple #[v,.nilIface])∧TksOwn w' w.heap.size v ts∧Below w.heap.size w w'
 | .error p=>e=.returned (.tuple #[.slice none 0 0,errV p])∧Below w.heap.size w w'
def bSyms:ByteArray:=⟨#[59,42,40,41,61,58]⟩
theorem byte_back (b:UInt8):(b.toNat:Int).toNat.toUInt8=b:=by simp
theorem sym_yes {b:UInt8} (h:symB b=true):0≤Lib.indexByte bSyms.data.toList b∧Lib.indexByte bSyms.data.toList b≤5:=by
 simp only [symB,Bool.or_eq_true,beq_iff_eq] at h
 rcases h with ((((h|h)|h)|h)|h)|h <;> subst h <;> decide
theorem sym_no {b:UInt8} (h:symB b=false):Lib.indexByte bSyms.data.toList b=-1:=by
 simp only [symB,Bool.or_eq_false_iff,beq_eq_false_iff_ne,ne_eq] at h
 obtain ⟨⟨⟨⟨⟨h1,h2⟩,h3⟩,h4⟩,h5⟩,h6⟩:=h
 have e:bSyms.data.toList=[59,42,40,41,61,58]:=rfl
 have f:∀ c:UInt8,¬ b=c → (c == b)=false:=fun c hc=>by simpa using fun e=>hc e.symm
 rw [e]
 simp only [Lib.indexByte,f _ h1,f _ h2,f _ h3,f _ h4,f _ h5,f _ h6]
 rfl
theorem symYes_any (b:UInt8) (w:World) (h:symB b=true):Calls Tryz.prog 175 #[.string bSyms,.int .u8 (b.toNat:Int)] w fun e w'=>∃ n:Int,e=.returned (.int .i64 n)∧0≤n∧n≤5∧w=w' :=
 (Tryz.strings_IndexByte bSyms (b.toNat:Int) w).mono fun e w' ⟨h1,h2⟩=>⟨_,h1,by rw [byte_back];exact (sym_yes h).1,by rw [byte_back];exact (sym_yes h).2,h2.symm⟩
theorem symNo_any (b:UInt8) (w:World) (h:symB b=false):Calls Tryz.prog 175 #[.string bSyms,.int .u8 (b.toNat:Int)] w fun e w'=>e=.returned (.int .i64 (-1))∧w=w' :=
 (Tryz.strings_IndexByte bSyms (b.toNat:Int) w).mono fun e w' ⟨h1,h2⟩=>⟨by rw [h1,byte_back,sym_no h],h2.symm⟩
theorem u8_beq (b:UInt8) (m:Nat) (hm:m<256):((b.toNat:Int) == (m:Int))=decide (b=UInt8.ofNat m):=by
 rw [Bool.eq_iff_iff]
 simp only [beq_iff_eq,decide_eq_true_eq]
 constructor
 ·intro h
  have:b.toNat=m:=by omega
  rw [← this];simp
 ·intro h
  subst h
  rw [UInt8.toNat_ofNat_of_lt' (by simpa using hm)]
theorem tks_push {w w2:World} {acc:List Tk} {v:Value} (x:Tk) (h:w2.ownsRow w.heap.size 87 3 v (acc.length+1) (acc.flatMap tkCells ++ [.int .i64 x.kind,.string x.text,.int .i64 x.pos])):TksOwn w2 w.heap.size v (acc ++ [x]):=by
 unfold TksOwn
 rw [List.length_append,List.flatMap_append]
 exact h
theorem tokenize_any (s:ByteArray) (w:World) (hs:s.size≤4194304) :
  Calls Tryz.prog 109 #[.string s] w (TokPost (tokL s) w):=by
 by_cases h4:s.size≤40000
 ·have g4:¬ (40000:Int)<s.size:=by omega
  rw [show tokL s=tokFrom s 0 by unfold tokL;rw [if_neg (by omega)]]
  obtain ⟨R,hR⟩:∃ R,tokFrom s 0=R:=⟨_,rfl⟩
  rw [hR]
  have HR:=Lib.hid hR
  clear hR
  obtain ⟨i0,hi,hz0,hz1,hz2⟩:=info_parts infoTk
  go_enter Tryz.func109,Tryz.ntmps109
  go_wp2
  go_loopw [4,5] (fun v i wr=>∃ (k:Nat) (acc:List Tk),k≤s.size∧i=.int .i64 k∧TksOwn wr w.heap.size v acc∧Hid (R=glue acc (tokFrom s k))∧Below w.heap.size w wr∧acc.length≤k) (fun _ i _=>s.size - (intOf i).toNat)
  case atStart =>
   refine ⟨0,[],Nat.zero_le _,rfl,?_,(by rw [glue_nil];exact HR.out.symm:Hid (R=glue [] (tokFrom s 0))),alloc_below _ _,Nat.le_refl _⟩
   have:=World.ownsRow_lit (base:=w.heap.size) (size:=3) (e:=87) w #[] 0 (Nat.le_refl _) (by unfold maxLen;omega) rfl
   simpa [TksOwn] using this
  case round =>
   obtain ⟨k,acc,hk,rfl,hown,HG,hbel,hal⟩:=hrel
   have hsz:=hbel.size
   obtain ⟨ao,cp,rfl⟩:=owns_shape hown
   by_cases hlt:k<s.size
   ·by_cases hbl:s[k]=32∨s[k]=10
    ·have HS:=Lib.hid (HG.out.trans (by rw [tok_blank hlt hbl]:glue acc (tokFrom s k)=glue acc (tokFrom s (k+1))))
     have hbb:((s[k].toNat:Int) == 32)=true∨(((s[k].toNat:Int) == 32)=false∧((s[k].toNat:Int) == 10)=true):=by
      by_cases e:s[k]=32
      ·exact .inl (by rw [e];rfl)
      ·refine .inr ⟨by show ((s[k].toNat:Int) == ((32:Nat):Int))=false;rw [u8_beq _ 32 (by omega)];simpa using e,?_⟩
       have e2:=hbl.resolve_left e
       rw [e2];rfl
     clear hbl HG
     rcases hbb with hb1|⟨hb1,hb2⟩
     all_goals
      go_wp2
      go_roundw
      case rel=>exact ⟨k+1,acc,by omega,by go_num,hown,HS,hbel,by omega⟩
      case measure=>simp [intOf];omega
    ·have hb1:((s[k].toNat:Int) == 32)=false:=by show ((s[k].toNat:Int) == ((32:Nat):Int))=false;rw [u8_beq _ 32 (by omega)];simpa using fun e=>hbl (.inl e)
     have hb2:((s[k].toNat:Int) == 10)=false:=by show ((s[k].toNat:Int) == ((10:Nat):Int))=false;rw [u8_beq _ 10 (by omega)];simpa using fun e=>hbl (.inr e)
     cases hl:lowB s[k]
     ·cases hd:digB s[k]
      ·cases hy:symB s[k]
       ·have hbad:=tok_bad hlt hbl hl hd hy
        have HE:Hid (R=.error (k,2)):=(show _=_ by rw [HG.out,hbad];rfl)
        clear hbad hbl
        go_wp2_with (first|(go_at_call 173;refine (isLower_any _ _).mono ?_;rintro e w1 ⟨rfl,rfl⟩)|(go_at_call 174;refine (isDigit_any _ _).mono ?_;rintro e w1 ⟨rfl,rfl⟩)|(go_at_call 175;refine (symNo_any _ _ hy).mono ?_;rintro e w1 ⟨rfl,rfl⟩))
        go_ret2
        rw [HE.out]
        exact ⟨rfl,hbel⟩
       ·have HS:=Lib.hid (HG.out.trans (tok_sym hlt hbl hl hd hy acc))
        clear hbl HG
        go_wp2_with (first|(go_at_call 173;refine (isLower_any _ _).mono ?_;rintro e w1 ⟨rfl,rfl⟩)|(go_at_call 174;refine (isDigit_any _ _).mono ?_;rintro e w1 ⟨rfl,rfl⟩)|(go_at_call 175;refine (symYes_any _ _ hy).mono ?_;rintro e w1 ⟨n1,rfl,hn1,hn2,rfl⟩)|(at_builtin;refine wpList_append_own _ rfl _ _ 83 rfl w.heap.size 87 i0 _ 3 32 Tryz.underlying83 hi hz0 hz1 hz2 rfl (by decide) _ _ _ rfl (hown.alloc _) ⟨wr.heap.size,0,none⟩ 1 1 [.int .i64 3,.string (cutB s k (k+1)),.int .i64 (k:Int)] rfl rfl ?c1 ?c2 ?c3 ?c4 ?c5 ?_))
        case c1 =>
         intro j u hj
         match j,hj with
         | 0,hj=>simp at hj;subst hj;simp [Addr.add]
         | 1,hj=>simp at hj;subst hj;simp [Addr.add,cutB]
         | 2,hj=>simp at hj;subst hj;simp [Addr.add]
        case c2=>first|(intro u hu;simp at hu;rcases hu with rfl|rfl|rfl <;> rfl)|exact ⟨rfl,rfl,rfl⟩
        case c3=>first|omega|(unfold maxLen;omega)
        case c4=>omega
        case c5=>first|omega|(simp;omega)
        intro v' w3 hown3 hgrow _
        have hb3:Below w.heap.size w w3:=(hbel.alloc (by omega) _).grown hgrow (by simp;omega) (fun j hj=>(World.ownsRow.lt hown j hj).1)
        have hown4:=tks_push ⟨3,cutB s k (k+1),k⟩ hown3
        clear hown3 hgrow hown
        go_wp2
        go_roundw
        case rel=>exact ⟨k+1,_,by omega,by go_num,hown4,HS,hb3,by simp;omega⟩
        case measure=>simp [intOf];omega
      ·have hend:=endOf_le (p:=digB) (s:=s) (i:=k+1) (by omega)
       go_wp2_with (first|(go_at_call 173;refine (isLower_any _ _).mono ?_;rintro e w1 ⟨rfl,rfl⟩)|(go_at_call 174;refine (isDigit_any _ _).mono ?_;rintro e w1 ⟨rfl,rfl⟩))
       go_loop [5] (fun i=>∃ j:Nat,k≤j∧j≤s.size∧i=.int .i64 j∧Hid (endOf digB s (k+1)=endOf digB s j)) (fun i=>s.size - (intOf i).toNat)
       case atStart=>exact ⟨k,Nat.le_refl _,by omega,rfl,(show _=_ from (endOf_step hlt hd).symm)⟩
       case round =>
        obtain ⟨j,hkj,hjs,rfl,HJ⟩:=hrel
        by_cases hjl:j<s.size
        ·cases hdj:digB s[j]
         ·have hje:endOf digB s (k+1)=j:=by rw [HJ.out,endOf_stop hjl hdj]
          rw [hje] at hend
          by_cases h6:j - k > 6
          ·have q1:(6:Int)<(j:Int) - k:=by omega
           have HE:Hid (R=.error (k,3)):=(show _=_ by rw [HG.out,tok_long hlt hbl hl hd (by rw [hje];exact .inl h6)];rfl)
           clear HG hbl HJ hje
           go_wp2_with (go_at_call 174;refine (isDigit_any _ _).mono ?_;rintro e w1 ⟨rfl,rfl⟩)
           go_ret2
           rw [HE.out]
           exact ⟨rfl,hbel⟩
          ·have q1:¬ (6:Int)<(j:Int) - k:=by omega
           by_cases h7:j - k > 1∧s[k]=48
           ·have q2:(1:Int)<(j:Int) - k:=by omega
            have q3:((s[k].toNat:Int) == 48)=true:=by rw [h7.2];rfl
            have HE:Hid (R=.error (k,3)):=(show _=_ by rw [HG.out,tok_long hlt hbl hl hd (by rw [hje];exact .inr h7)];rfl)
            clear HG hbl HJ hje
            go_wp2_with (go_at_call 174;refine (isDigit_any _ _).mono ?_;rintro e w1 ⟨rfl,rfl⟩)
            go_ret2
            rw [HE.out]
            exact ⟨rfl,hbel⟩
           ·have HS:=Lib.hid (HG.out.trans (tok_num hlt hbl hl hd (by rw [hje];exact fun hh=>hh.elim h6 h7) acc))
            rw [hje] at HS
            have q23:¬ (1:Int)<(j:Int) - k∨((1:Int)<(j:Int) - k∧((s[k].toNat:Int) == 48)=false):=by
             by_cases q:j - k > 1
             ·exact .inr ⟨by omega,by show ((s[k].toNat:Int) == ((48:Nat):Int))=false;rw [u8_beq _ 48 (by omega)];simpa using fun e=>h7 ⟨q,e⟩⟩
             ·exact .inl (by omega)
            clear HG hbl HJ hje h6 h7
            rcases q23 with q2|⟨q2,q3⟩
            all_goals
             go_wp2_with (first|(go_at_call 174;refine (isDigit_any _ _).mono ?_;rintro e w1 ⟨rfl,rfl⟩)|(at_builtin;refine wpList_append_own _ rfl _ _ 83 rfl w.heap.size 87 i0 _ 3 32 Tryz.underlying83 hi hz0 hz1 hz2 rfl (by decide) _ _ _ rfl (hown.alloc _) ⟨wr.heap.size,0,none⟩ 1 1 [.int .i64 2,.string (cutB s k j),.int .i64 (k:Int)] rfl rfl ?c1 ?c2 ?c3 ?c4 ?c5 ?_))
             case c1 =>
              intro i u hj
              match i,hj with
              | 0,hj=>simp at hj;subst hj;simp [Addr.add]
              | 1,hj=>simp at hj;subst hj;simp [Addr.add,cutB]
              | 2,hj=>simp at hj;subst hj;simp [Addr.add]
             case c2=>first|(intro u hu;simp at hu;rcases hu with rfl|rfl|rfl <;> rfl)|exact ⟨rfl,rfl,rfl⟩
             case c3=>first|omega|(unfold maxLen;omega)
             case c4=>omega
             case c5=>first|omega|(simp;omega)
             intro v' w3 hown3 hgrow _
             have hb3:Below w.heap.size w w3:=(hbel.alloc (by omega) _).grown hgrow (by simp;omega) (fun j hj=>(World.ownsRow.lt hown j hj).1)
             have hown4:=tks_push ⟨2,cutB s k j,k⟩ hown3
             clear hown3 hgrow hown
             go_wp2
             go_roundw
             case rel=>exact ⟨j,_,by omega,by go_num,hown4,HS,hb3,by simp;omega⟩
             case measure=>simp [intOf];omega
         ·have HJ2:=Lib.hid (HJ.out.trans (endOf_step hjl hdj))
          clear HJ hend
          go_wp2_with (go_at_call 174;refine (isDigit_any _ _).mono ?_;rintro e w1 ⟨rfl,rfl⟩)
          go_round
          case rel=>exact ⟨j+1,by omega,by omega,by go_num,HJ2⟩
          case measure=>simp [intOf];omega
        ·have hje:endOf digB s (k+1)=j:=by rw [HJ.out,endOf_end (by omega)]
         rw [hje] at hend
         by_cases h6:j - k > 6
         ·have q1:(6:Int)<(j:Int) - k:=by omega
          have HE:Hid (R=.error (k,3)):=(show _=_ by rw [HG.out,tok_long hlt hbl hl hd (by rw [hje];exact .inl h6)];rfl)
          clear HG hbl HJ hje
          go_wp2
          go_ret2
          rw [HE.out]
          exact ⟨rfl,hbel⟩
         ·have q1:¬ (6:Int)<(j:Int) - k:=by omega
          by_cases h7:j - k > 1∧s[k]=48
          ·have q2:(1:Int)<(j:Int) - k:=by omega
           have q3:((s[k].toNat:Int) == 48)=true:=by rw [h7.2];rfl
           have HE:Hid (R=.error (k,3)):=(show _=_ by rw [HG.out,tok_long hlt hbl hl hd (by rw [hje];exact .inr h7)];rfl)
           clear HG hbl HJ hje
           go_wp2
           go_ret2
           rw [HE.out]
           exact ⟨rfl,hbel⟩
          ·have HS:=Lib.hid (HG.out.trans (tok_num hlt hbl hl hd (by rw [hje];exact fun hh=>hh.elim h6 h7) acc))
           rw [hje] at HS
           have q23:¬ (1:Int)<(j:Int) - k∨((1:Int)<(j:Int) - k∧((s[k].toNat:Int) == 48)=false):=by
            by_cases q:j - k > 1
            ·exact .inr ⟨by omega,by show ((s[k].toNat:Int) == ((48:Nat):Int))=false;rw [u8_beq _ 48 (by omega)];simpa using fun e=>h7 ⟨q,e⟩⟩
            ·exact .inl (by omega)
           clear HG hbl HJ hje h6 h7
           rcases q23 with q2|⟨q2,q3⟩
           all_goals
            go_wp2_with (first|(go_at_call 174;refine (isDigit_any _ _).mono ?_;rintro e w1 ⟨rfl,rfl⟩)|(at_builtin;refine wpList_append_own _ rfl _ _ 83 rfl w.heap.size 87 i0 _ 3 32 Tryz.underlying83 hi hz0 hz1 hz2 rfl (by decide) _ _ _ rfl (hown.alloc _) ⟨wr.heap.size,0,none⟩ 1 1 [.int .i64 2,.string (cutB s k j),.int .i64 (k:Int)] rfl rfl ?c1 ?c2 ?c3 ?c4 ?c5 ?_))
            case c1 =>
             intro i u hj
             match i,hj with
             | 0,hj=>simp at hj;subst hj;simp [Addr.add]
             | 1,hj=>simp at hj;subst hj;simp [Addr.add,cutB]
             | 2,hj=>simp at hj;subst hj;simp [Addr.add]
            case c2=>first|(intro u hu;simp at hu;rcases hu with rfl|rfl|rfl <;> rfl)|exact ⟨rfl,rfl,rfl⟩
            case c3=>first|omega|(unfold maxLen;omega)
            case c4=>omega
            case c5=>first|omega|(simp;omega)
            intro v' w3 hown3 hgrow _
            have hb3:Below w.heap.size w w3:=(hbel.alloc (by omega) _).grown hgrow (by simp;omega) (fun j hj=>(World.ownsRow.lt hown j hj).1)
            have hown4:=tks_push ⟨2,cutB s k j,k⟩ hown3
            clear hown3 hgrow hown
            go_wp2
            go_roundw
            case rel=>exact ⟨j,_,by omega,by go_num,hown4,HS,hb3,by simp;omega⟩
            case measure=>simp [intOf];omega
     ·have hend:=endOf_le (p:=lodB) (s:=s) (i:=k+1) (by omega)
      have hlk:lodB s[k]=true:=by simp [lodB,hl]
      go_wp2_with (go_at_call 173;refine (isLower_any _ _).mono ?_;rintro e w1 ⟨rfl,rfl⟩)
      go_loop [5] (fun i=>∃ j:Nat,k≤j∧j≤s.size∧i=.int .i64 j∧Hid (endOf lodB s (k+1)=endOf lodB s j)) (fun i=>s.size - (intOf i).toNat)
      case atStart=>exact ⟨k,Nat.le_refl _,by omega,rfl,(show _=_ from (endOf_step hlt hlk).symm)⟩
      case round =>
       obtain ⟨j,hkj,hjs,rfl,HJ⟩:=hrel
       clear hlk
       by_cases hjl:j<s.size
       ·cases hlj:lowB s[j]
        ·cases hdj:digB s[j]
         ·have hje:endOf lodB s (k+1)=j:=by rw [HJ.out,endOf_stop hjl (by simp [lodB,hlj,hdj])]
          rw [hje] at hend
          have HS:=Lib.hid (HG.out.trans (tok_word hlt hbl hl acc))
          rw [hje] at HS
          clear HG hbl HJ hje
          go_wp2_with (first|(go_at_call 173;refine (isLower_any _ _).mono ?_;rintro e w1 ⟨rfl,rfl⟩)|(go_at_call 174;refine (isDigit_any _ _).mono ?_;rintro e w1 ⟨rfl,rfl⟩)|(at_builtin;refine wpList_append_own _ rfl _ _ 83 rfl w.heap.size 87 i0 _ 3 32 Tryz.underlying83 hi hz0 hz1 hz2 rfl (by decide) _ _ _ rfl (hown.alloc _) ⟨wr.heap.size,0,none⟩ 1 1 [.int .i64 1,.string (cutB s k j),.int .i64 (k:Int)] rfl rfl ?c1 ?c2 ?c3 ?c4 ?c5 ?_))
          case c1 =>
           intro i u hj
           match i,hj with
           | 0,hj=>simp at hj;subst hj;simp [Addr.add]
           | 1,hj=>simp at hj;subst hj;simp [Addr.add,cutB]
           | 2,hj=>simp at hj;subst hj;simp [Addr.add]
          case c2=>first|(intro u hu;simp at hu;rcases hu with rfl|rfl|rfl <;> rfl)|exact ⟨rfl,rfl,rfl⟩
          case c3=>first|omega|(unfold maxLen;omega)
          case c4=>omega
          case c5=>first|omega|(simp;omega)
          intro v' w3 hown3 hgrow _
          have hb3:Below w.heap.size w w3:=(hbel.alloc (by omega) _).grown hgrow (by simp;omega) (fun j hj=>(World.ownsRow.lt hown j hj).1)
          have hown4:=tks_push ⟨1,cutB s k j,k⟩ hown3
          clear hown3 hgrow hown
          go_wp2
          go_roundw
          case rel=>exact ⟨j,_,by omega,by go_num,hown4,HS,hb3,by simp;omega⟩
          case measure=>simp [intOf];omega
         ·have HJ2:=Lib.hid (HJ.out.trans (endOf_step hjl (by simp [lodB,hdj])))
          clear HJ hend
          go_wp2_with (first|(go_at_call 173;refine (isLower_any _ _).mono ?_;rintro e w1 ⟨rfl,rfl⟩)|(go_at_call 174;refine (isDigit_any _ _).mono ?_;rintro e w1 ⟨rfl,rfl⟩))
          go_round
          case rel=>exact ⟨j+1,by omega,by omega,by go_num,HJ2⟩
          case measure=>simp [intOf];omega
        ·have HJ2:=Lib.hid (HJ.out.trans (endOf_step hjl (by simp [lodB,hlj])))
         clear HJ hend
         go_wp2_with (first|(go_at_call 173;refine (isLower_any _ _).mono ?_;rintro e w1 ⟨rfl,rfl⟩)|(go_at_call 174;refine (isDigit_any _ _).mono ?_;rintro e w1 ⟨rfl,rfl⟩))
         go_round
         case rel=>exact ⟨j+1,by omega,by omega,by go_num,HJ2⟩
         case measure=>simp [intOf];omega
       ·have hje:endOf lodB s (k+1)=j:=by rw [HJ.out,endOf_end (by omega)]
        rw [hje] at hend
        have HS:=Lib.hid (HG.out.trans (tok_word hlt hbl hl acc))
        rw [hje] at HS
        clear HG hbl HJ hje
        go_wp2_with (first|(go_at_call 173;refine (isLower_any _ _).mono ?_;rintro e w1 ⟨rfl,rfl⟩)|(go_at_call 174;refine (isDigit_any _ _).mono ?_;rintro e w1 ⟨rfl,rfl⟩)|(at_builtin;refine wpList_append_own _ rfl _ _ 83 rfl w.heap.size 87 i0 _ 3 32 Tryz.underlying83 hi hz0 hz1 hz2 rfl (by decide) _ _ _ rfl (hown.alloc _) ⟨wr.heap.size,0,none⟩ 1 1 [.int .i64 1,.string (cutB s k j),.int .i64 (k:Int)] rfl rfl ?c1 ?c2 ?c3 ?c4 ?c5 ?_))
        case c1 =>
         intro i u hj
         match i,hj with
         | 0,hj=>simp at hj;subst hj;simp [Addr.add]
         | 1,hj=>simp at hj;subst hj;simp [Addr.add,cutB]
         | 2,hj=>simp at hj;subst hj;simp [Addr.add]
        case c2=>first|(intro u hu;simp at hu;rcases hu with rfl|rfl|rfl <;> rfl)|exact ⟨rfl,rfl,rfl⟩
        case c3=>first|omega|(unfold maxLen;omega)
        case c4=>omega
        case c5=>first|omega|(simp;omega)
        intro v' w3 hown3 hgrow _
        have hb3:Below w.heap.size w w3:=(hbel.alloc (by omega) _).grown hgrow (by simp;omega) (fun j hj=>(World.ownsRow.lt hown j hj).1)
        have hown4:=tks_push ⟨1,cutB s k j,k⟩ hown3
        clear hown3 hgrow hown
        go_wp2
        go_roundw
        case rel=>exact ⟨j,_,by omega,by go_num,hown4,HS,hb3,by simp;omega⟩
        case measure=>simp [intOf];omega
   ·have hks:k=s.size:=by omega
    have HE:Hid (R=.ok acc):=(show _=_ by rw [HG.out,tok_end (by omega)];simp [glue])
    clear HG
    go_wp2
    go_ret2
    rw [HE.out]
    exact ⟨_,rfl,hown,hbel⟩
 ·have g4:(40000:Int)<s.size:=by omega
  rw [show tokL s=.error (0,1) by unfold tokL;rw [if_pos (by omega)]]
  go_enter Tryz.func109,Tryz.ntmps109
  go_wp2
  go_ret2
  exact ⟨rfl,Below.refl _ _⟩
end Go.Proofs.YtbljmfcifljkaaaGreatDoor
/-
  The reference's l1Read at strings of digits; numerals read. Own work.
-/
namespace Go.Proofs.YtbljmfcifljkaaaGreatDoor
open Go.RowKit
theorem sxLetter_any (b:UInt8) (w:World) :
  Calls Tryz.prog 99 #[.int .u8 b.toNat] w fun e w'=>e=.returned (.bool (lowB b))∧w=w':=by
 go_enter Tryz.func99,Tryz.ntmps99
 go_wp2
 all_goals go_ret
 all_goals exact ⟨ret_bool (by first|(simp_all [lowB];done)|(simp_all [lowB];omega)),rfl⟩
theorem sxDigit_any (b:UInt8) (w:World) :
  Calls Tryz.prog 100 #[.int .u8 b.toNat] w fun e w'=>e=.returned (.bool (digB b))∧w=w':=by
 go_enter Tryz.func100,Tryz.ntmps100
 go_wp2
 all_goals go_ret
 all_goals exact ⟨ret_bool (by first|(simp_all [digB];done)|(simp_all [digB];omega)),rfl⟩
def numG:List UInt8 → Int → Int
 | [],n=>n
 | b :: r,n=>numG r (10 * n+((b.toNat:Int) - 48))
theorem numG_eq (l:List UInt8) (n:Int):l.foldl (fun n b=>10 * n+((b.toNat:Int) - 48)) n=numG l n:=by
 induction l generalizing n with
 | nil=>rfl
 | cons b r ih=>simp only [List.foldl_cons,numG];exact ih _
def Digs (s:ByteArray):Prop:=∀ i (h:i<s.size),digB s[i]=true
def rdOk (s:ByteArray):Bool:=decide (s.size≤6) && !(decide (1<s.size) && decide ((s.data.toList.headD 0)=48))
def rdV (s:ByteArray):Int:=if rdOk s then numV s else -1
theorem numG_step (s:ByteArray) (k:Nat) (h:k<s.size) (n:Int):numG (s.data.toList.drop k) n=numG (s.data.toList.drop (k+1)) (10 * n+((s[k].toNat:Int) - 48)):=by
 rw [List.drop_eq_getElem_cons (by simpa using h)]
 rfl
theorem numG_end (s:ByteArray) (n:Int):numG (s.data.toList.drop s.size) n=n:=by
 rw [List.drop_eq_nil_of_le (by simp)]
 rfl
theorem head_at (s:ByteArray) (h:0<s.size):s.data.toList.headD 0=s[0]:=by
 have h2:s.data.toList=s[0] :: s.data.toList.drop 1:=List.drop_eq_getElem_cons (l:=s.data.toList) (i:=0) (by simpa using h)
 rw [h2];rfl
theorem rdV_zero {s:ByteArray} (h0:0<s.size) (h:s[0]=48) (h1:1<s.size):rdV s=-1:=by
 unfold rdV rdOk
 rw [head_at s h0,if_neg]
 simp [h,h1]
theorem rdV_long {s:ByteArray} (h:¬ s.size≤6):rdV s=-1:=by
 unfold rdV rdOk
 rw [if_neg]
 simp;omega
theorem rdV_num {s:ByteArray} (h0:0<s.size) (h6:s.size≤6) (h:¬ (s[0]=48∧1<s.size)):rdV s=numG (s.data.toList.drop 0) 0:=by
 unfold rdV rdOk
 rw [head_at s h0,if_pos]
 ·rw [numV,numG_eq];rfl
 ·simp only [Bool.and_eq_true,decide_eq_true_eq,Bool.not_eq_true',Bool.and_eq_false_iff,decide_eq_false_iff_not]
  refine ⟨h6,?_⟩
  by_cases hh:1<s.size
  ·exact .inr fun e=>h ⟨e,hh⟩
  ·exact .inl hh
theorem l1Read_any (s:ByteArray) (w:World) (h1:1≤s.size) (hs:s.size≤4194304) (hd:Digs s) :
  Calls Tryz.prog 101 #[.string s] w fun e w'=>e=.returned (.int .i64 (rdV s))∧w=w':=by
 have h0:0<s.size:=by omega
 by_cases h6:s.size≤6
 ·have g1:inB s.size 1 6=true:=by simp [inB];omega
  by_cases hz:s[0]=48∧1<s.size
  ·have q1:((s[0].toNat:Int) == 48)=true:=by rw [hz.1];rfl
   have q2:(1:Int)<s.size:=by omega
   have HR:=Lib.hid (rdV_zero h0 hz.1 hz.2)
   clear hz
   go_enter Tryz.func101,Tryz.ntmps101
   go_wp2_with (go_at_call 80;refine (l1In_any _ _ _ _).mono ?_;rintro e w1 ⟨rfl,rfl⟩)
   go_ret
   exact ⟨by rw [HR.out];rfl,rfl⟩
  ·have HR:=Lib.hid (rdV_num h0 h6 hz)
   have hzz:((s[0].toNat:Int) == 48)=false∨(((s[0].toNat:Int) == 48)=true∧¬ (1:Int)<s.size):=by
    by_cases e:s[0]=48
    ·exact .inr ⟨by rw [e];rfl,fun hh=>hz ⟨e,by omega⟩⟩
    ·exact .inl (by show ((s[0].toNat:Int) == ((48:Nat):Int))=false;rw [u8_beq _ 48 (by omega)];simpa using e)
   clear hz
   rcases hzz with q1|⟨q1,q2⟩
   all_goals
    go_enter Tryz.func101,Tryz.ntmps101
    go_wp2_with (go_at_call 80;refine (l1In_any _ _ _ _).mono ?_;rintro e w1 ⟨rfl,rfl⟩)
    go_loop [3,4] (fun nv i=>∃ (k:Nat) (n:Int),k≤s.size∧i=.int .i64 k∧nv=.int .i64 n∧0≤n∧n+1≤10 ^ k∧Hid (rdV s=numG (s.data.toList.drop k) n)) (fun _ i=>s.size - (intOf i).toNat)
    case atStart=>exact ⟨0,0,Nat.zero_le _,rfl,rfl,by omega,by decide,HR⟩
    case round =>
     obtain ⟨k,n,hk,rfl,rfl,hn0,hn1,HC⟩:=hrel
     by_cases hlt:k<s.size
     ·have HS:=Lib.hid (HC.out.trans (numG_step s k hlt n))
      have hdk:=hd k hlt
      simp only [digB,Bool.and_eq_true,decide_eq_true_eq] at hdk
      obtain ⟨d1,d2⟩:=hdk
      have hn2:n≤100000:=by
       have:k≤5:=by omega
       match k,this,hn1 with
       | 0,_,h=>simp at h;omega
       | 1,_,h=>simp at h;omega
       | 2,_,h=>simp at h;omega
       | 3,_,h=>simp at h;omega
       | 4,_,h=>simp at h;omega
       | 5,_,h=>simp at h;omega
      have hn3:=Lib.hid (show 10 * n+((s[k].toNat:Int) - 48)+1≤10 ^ (k+1) by rw [Int.pow_succ];omega)
      clear HC hn1
      go_wp2
      go_round
      case rel=>exact ⟨k+1,_,by omega,by go_num,rfl,by omega,hn3.out,HS⟩
      case measure=>simp [intOf];omega
     ·obtain rfl:k=s.size:=by omega
      go_wp2
      go_ret
      exact ⟨ret_int (by rw [HC.out,numG_end]),rfl⟩
 ·have g1:inB s.size 1 6=false:=by simp [inB];omega
  have HR:=Lib.hid (rdV_long h6)
  go_enter Tryz.func101,Tryz.ntmps101
  go_wp2_with (go_at_call 80;refine (l1In_any _ _ _ _).mono ?_;rintro e w1 ⟨rfl,rfl⟩)
  go_ret
  exact ⟨by rw [HR.out];rfl,rfl⟩
end Go.Proofs.YtbljmfcifljkaaaGreatDoor
/-
  The reference's sxTokens. Own work.
-/
namespace Go.Proofs.YtbljmfcifljkaaaGreatDoor
open Go.RowKit
theorem cut_size {s:ByteArray} {k j:Nat} (h1:k≤j) (h2:j≤s.size):(cutB s k j).size=j - k:=by
 unfold cutB
 simp [ByteArray.size_extract]
 omega
theorem cut_get {s:ByteArray} {k j i:Nat} (h1:k≤j) (h2:j≤s.size) (hi:i<(cutB s k j).size):(cutB s k j)[i]=s[k+i]'(by rw [cut_size h1 h2] at hi;omega):=by
 exact ByteArray.getElem_extract (b:=s) (start:=k) (stop:=j) (i:=i) hi
theorem endOf_all {p:UInt8 → Bool} {s:ByteArray}:∀ (n i:Nat),s.size - i=n → ∀ j (h:j<s.size),i≤j → j<endOf p s i → p s[j]=true
 | 0,i,hn,j,h,hij,hj=>by omega
 | n+1,i,hn,j,h,hij,hj=>by
  have hi:i<s.size:=by omega
  cases hp:p s[i] with
  | false=>rw [endOf_stop hi hp] at hj;omega
  | true =>
   by_cases e:i=j
   ·subst e;exact hp
   ·rw [endOf_step hi hp] at hj
    exact endOf_all n (i+1) (by omega) j h (by omega) hj
theorem digs_cut {s:ByteArray} {k:Nat} (h:k<s.size) (hd:digB s[k]=true):Digs (cutB s k (endOf digB s (k+1))):=by
 have he:=endOf_le (p:=digB) (s:=s) (i:=k+1) h
 intro i hi
 rw [cut_get (by omega) he.2]
 rw [cut_size (by omega) he.2] at hi
 by_cases h0:i=0
 ·subst h0;simpa using hd
 ·exact endOf_all _ (k+1) rfl (k+i) (by omega) (by omega) (by omega)
theorem numG_nonneg:∀ (l:List UInt8) (n:Int),0≤n → (∀ b ∈ l,digB b=true) → 0≤numG l n
 | [],n,h,_=>h
 | b :: r,n,h,hd=>by
  have hb:=hd b (List.mem_cons_self ..)
  simp only [digB,Bool.and_eq_true,decide_eq_true_eq] at hb
  exact numG_nonneg r _ (by omega) fun x hx=>hd x (List.mem_cons_of_mem _ hx)
theorem digs_mem {s:ByteArray} (h:Digs s):∀ b ∈ s.data.toList,digB b=true:=by
 intro b hb
 obtain ⟨i,hi,rfl⟩:=List.mem_iff_getElem.1 hb
 exact h i (by simpa using hi)
theorem numV_nonneg {s:ByteArray} (h:Digs s):0≤numV s:=by
 unfold numV;rw [numG_eq];exact numG_nonneg _ _ (by omega) (digs_mem h)
theorem rdV_neg {s:ByteArray} {k:Nat} (h:k<s.size) (hd:digB s[k]=true) (hg:endOf digB s (k+1) - k > 6∨(endOf digB s (k+1) - k > 1∧s[k]=48)):rdV (cutB s k (endOf digB s (k+1)))=-1:=by
 have he:=endOf_le (p:=digB) (s:=s) (i:=k+1) h
 have hsz:=cut_size (s:=s) (k:=k) (j:=endOf digB s (k+1)) (by omega) he.2
 by_cases h6:endOf digB s (k+1) - k > 6
 ·exact rdV_long (by omega)
 ·obtain ⟨h1,h2⟩:=hg.resolve_left h6
  refine rdV_zero (by omega) ?_ (by omega)
  rw [cut_get (by omega) he.2]
  simpa using h2
theorem rdV_pos {s:ByteArray} {k:Nat} (h:k<s.size) (hd:digB s[k]=true) (hg:¬ (endOf digB s (k+1) - k > 6∨(endOf digB s (k+1) - k > 1∧s[k]=48))) :
  rdV (cutB s k (endOf digB s (k+1)))=numV (cutB s k (endOf digB s (k+1))):=by
 have he:=endOf_le (p:=digB) (s:=s) (i:=k+1) h
 have hsz:=cut_size (s:=s) (k:=k) (j:=endOf digB s (k+1)) (by omega) he.2
 rw [rdV_num (by omega) (by omega),numV,numG_eq]
 ·rfl
 ·rintro ⟨h1,h2⟩
  rw [cut_get (by omega) he.2] at h1
  exact hg (.inr ⟨by omega,by simpa using h1⟩)
def SymAt (b:UInt8):Prop:=((b.toNat:Int) == 59)=true∨(((b.toNat:Int) == 59)=false∧((b.toNat:Int) == 42)=true)∨(((b.toNat:Int) == 59)=false∧((b.toNat:Int) == 42)=false∧((b.toNat:Int) == 40)=true) ∨
 (((b.toNat:Int) == 59)=false∧((b.toNat:Int) == 42)=false∧((b.toNat:Int) == 40)=false∧((b.toNat:Int) == 41)=true)∨(((b.toNat:Int) == 59)=false∧((b.toNat:Int) == 42)=false∧((b.toNat:Int) == 40)=false∧((b.toNat:Int) == 41)=false∧((b.toNat:Int) == 61)=true) ∨
 (((b.toNat:Int) == 59)=false∧((b.toNat:Int) == 42)=false∧((b.toNat:Int) == 40)=false∧((b.toNat:Int) == 41)=false∧((b.toNat:Int) == 61)=false∧((b.toNat:Int) == 58)=true)
theorem sym_at {b:UInt8} (h:((((b=59∨b=42)∨b=40)∨b=41)∨b=61)∨b=58):SymAt b:=by
 rcases h with ((((h|h)|h)|h)|h)|h <;> subst h <;> simp [SymAt]
def TokPost3 (r:Except (Int × Int) (List Tk)) (w:World) (e:Ending) (w':World):Prop :=
 match r with
 | .ok ts=>∃ v,e=.returned (.tuple #[v,.int .i64 0,.int .i64 0])∧TksOwn w' w.heap.size v ts∧Below w.heap.size w w'
 | .error p=>e=.returned (.tuple #[.slice none 0 0,.int .i64 p.1,.int .i64 p.2])∧Below w.heap.size w w'
theorem sxTokens_any (s:ByteArray) (w:World) (hs:s.size≤4194304) :
  Calls Tryz.prog 45 #[.string s] w (TokPost3 (tokL s) w):=by
 by_cases h4:s.size≤40000
 ·have g4:¬ (40000:Int)<s.size:=by omega
  rw [show tokL s=tokFrom s 0 by unfold tokL;rw [if_neg (by omega)]]
  obtain ⟨R,hR⟩:∃ R,tokFrom s 0=R:=⟨_,rfl⟩
  rw [hR]
  have HR:=Lib.hid hR
  clear hR
  obtain ⟨i0,hi,hz0,hz1,hz2⟩:=info_parts infoTk
  go_enter Tryz.func45,Tryz.ntmps45
  go_wp2
  go_loopw [5,6] (fun v i wr=>∃ (k:Nat) (acc:List Tk),k≤s.size∧i=.int .i64 k∧TksOwn wr w.heap.size v acc∧Hid (R=glue acc (tokFrom s k))∧Below w.heap.size w wr∧acc.length≤k) (fun _ i _=>s.size - (intOf i).toNat)
  case atStart=>exact ⟨0,[],Nat.zero_le _,rfl,⟨by simp,.inl ⟨rfl,rfl⟩⟩,(by rw [glue_nil];exact HR.out.symm:Hid (R=glue [] (tokFrom s 0))),Below.refl _ _,Nat.le_refl _⟩
  case round =>
   obtain ⟨k,acc,hk,rfl,hown,HG,hbel,hal⟩:=hrel
   have hsz:=hbel.size
   obtain ⟨ao,cp,rfl⟩:=owns_shape hown
   by_cases hlt:k<s.size
   ·by_cases hbl:s[k]=32∨s[k]=10
    ·have HS:=Lib.hid (HG.out.trans (by rw [tok_blank hlt hbl]:glue acc (tokFrom s k)=glue acc (tokFrom s (k+1))))
     have hbb:((s[k].toNat:Int) == 32)=true∨(((s[k].toNat:Int) == 32)=false∧((s[k].toNat:Int) == 10)=true):=by
      by_cases e:s[k]=32
      ·exact .inl (by rw [e];rfl)
      ·refine .inr ⟨by show ((s[k].toNat:Int) == ((32:Nat):Int))=false;rw [u8_beq _ 32 (by omega)];simpa using e,?_⟩
       have e2:=hbl.resolve_left e
       rw [e2];rfl
     clear hbl HG
     rcases hbb with hb1|⟨hb1,hb2⟩
     all_goals
      go_wp2
      go_roundw
      case rel=>exact ⟨k+1,acc,by omega,by go_num,hown,HS,hbel,by omega⟩
      case measure=>simp [intOf];omega
    ·have hb1:((s[k].toNat:Int) == 32)=false:=by show ((s[k].toNat:Int) == ((32:Nat):Int))=false;rw [u8_beq _ 32 (by omega)];simpa using fun e=>hbl (.inl e)
     have hb2:((s[k].toNat:Int) == 10)=false:=by show ((s[k].toNat:Int) == ((10:Nat):Int))=false;rw [u8_beq _ 10 (by omega)];simpa using fun e=>hbl (.inr e)
     cases hy:symB s[k]
     ·have hyy:=hy
      simp only [symB,Bool.or_eq_false_iff,beq_eq_false_iff_ne,ne_eq] at hyy
      obtain ⟨⟨⟨⟨⟨e59,e42⟩,e40⟩,e41⟩,e61⟩,e58⟩:=hyy
      have f59:((s[k].toNat:Int) == 59)=false:=by show ((s[k].toNat:Int) == ((59:Nat):Int))=false;rw [u8_beq _ 59 (by omega)];simpa using e59
      have f42:((s[k].toNat:Int) == 42)=false:=by show ((s[k].toNat:Int) == ((42:Nat):Int))=false;rw [u8_beq _ 42 (by omega)];simpa using e42
      have f40:((s[k].toNat:Int) == 40)=false:=by show ((s[k].toNat:Int) == ((40:Nat):Int))=false;rw [u8_beq _ 40 (by omega)];simpa using e40
      have f41:((s[k].toNat:Int) == 41)=false:=by show ((s[k].toNat:Int) == ((41:Nat):Int))=false;rw [u8_beq _ 41 (by omega)];simpa using e41
      have f61:((s[k].toNat:Int) == 61)=false:=by show ((s[k].toNat:Int) == ((61:Nat):Int))=false;rw [u8_beq _ 61 (by omega)];simpa using e61
      have f58:((s[k].toNat:Int) == 58)=false:=by show ((s[k].toNat:Int) == ((58:Nat):Int))=false;rw [u8_beq _ 58 (by omega)];simpa using e58
      clear e59 e42 e40 e41 e61 e58
      cases hl:lowB s[k]
      ·cases hd:digB s[k]
       ·have hbad:=tok_bad hlt hbl hl hd hy
        have HE:Hid (R=.error (k,2)):=(show _=_ by rw [HG.out,hbad];rfl)
        clear hbad hbl hy
        go_wp2_with (first|(go_at_call 99;refine (sxLetter_any _ _).mono ?_;rintro e w1 ⟨rfl,rfl⟩)|(go_at_call 100;refine (sxDigit_any _ _).mono ?_;rintro e w1 ⟨rfl,rfl⟩))
        go_ret3
        rw [HE.out]
        exact ⟨rfl,hbel⟩
       ·have hend:=endOf_le (p:=digB) (s:=s) (i:=k+1) (by omega)
        clear hy
        go_wp2_with (first|(go_at_call 99;refine (sxLetter_any _ _).mono ?_;rintro e w1 ⟨rfl,rfl⟩)|(go_at_call 100;refine (sxDigit_any _ _).mono ?_;rintro e w1 ⟨rfl,rfl⟩))
        go_loop [8] (fun i=>∃ j:Nat,k+1≤j∧j≤s.size∧i=.int .i64 j∧Hid (endOf digB s (k+1)=endOf digB s j)) (fun i=>s.size - (intOf i).toNat)
        case atStart=>exact ⟨k+1,Nat.le_refl _,by omega,by go_num,(rfl:Hid (endOf digB s (k+1)=_))⟩
        case round =>
         obtain ⟨j,hkj,hjs,rfl,HJ⟩:=hrel
         by_cases hjl:j<s.size
         ·cases hdj:digB s[j]
          ·have hje:endOf digB s (k+1)=j:=by rw [HJ.out,endOf_stop hjl hdj]
           have hdc:=digs_cut hlt hd
           have hrn:=fun hg=>rdV_neg hlt hd hg
           have hrp:=fun hg=>rdV_pos hlt hd hg
           have hTL:=fun hg=>tok_long hlt hbl hl hd hg
           have hTN:=fun hg=>tok_num hlt hbl hl hd hg acc
           rw [hje] at hend hdc hrn hrp hTL hTN
           have hcs:=cut_size (s:=s) (k:=k) (j:=j) (by omega) (by omega)
           by_cases hg:j - k > 6∨(j - k > 1∧s[k]=48)
           ·have HE:Hid (R=.error (k,3)):=(show _=_ by rw [HG.out,hTL hg];rfl)
            have HV:=Lib.hid (hrn hg)
            clear HG hbl HJ hje hg hTL hTN hrn hrp
            go_wp2_with (first|(go_at_call 99;refine (sxLetter_any _ _).mono ?_;rintro e w1 ⟨rfl,rfl⟩)|(go_at_call 100;refine (sxDigit_any _ _).mono ?_;rintro e w1 ⟨rfl,rfl⟩)|(go_at_call 101;refine (l1Read_any (cutB s k j) _ (by omega) (by omega) hdc).mono ?_;rintro e w1 ⟨rfl,rfl⟩;rw [HV.out]))
            go_ret3
            rw [HE.out]
            exact ⟨rfl,hbel⟩
           ·have HS:=Lib.hid (HG.out.trans (hTN hg))
            have HV:=Lib.hid (hrp hg)
            have hnn:=numV_nonneg hdc
            clear HG hbl HJ hje hg hTL hTN hrn hrp
            go_wp2_with (first|(go_at_call 99;refine (sxLetter_any _ _).mono ?_;rintro e w1 ⟨rfl,rfl⟩)|(go_at_call 100;refine (sxDigit_any _ _).mono ?_;rintro e w1 ⟨rfl,rfl⟩)|(go_at_call 101;refine (l1Read_any (cutB s k j) _ (by omega) (by omega) hdc).mono ?_;rintro e w1 ⟨rfl,rfl⟩;rw [HV.out])|(at_builtin;refine wpList_append_own _ rfl _ _ 83 rfl w.heap.size 87 i0 _ 3 32 Tryz.underlying83 hi hz0 hz1 hz2 rfl (by decide) _ _ _ rfl (hown.alloc _) ⟨wr.heap.size,0,none⟩ 1 1 [.int .i64 2,.string (cutB s k j),.int .i64 (k:Int)] rfl rfl ?c1 ?c2 ?c3 ?c4 ?c5 ?_))
            case c1 =>
             intro i u hj
             match i,hj with
             | 0,hj=>simp at hj;subst hj;simp [Addr.add]
             | 1,hj=>simp at hj;subst hj;simp [Addr.add,cutB]
             | 2,hj=>simp at hj;subst hj;simp [Addr.add]
            case c2=>first|(intro u hu;simp at hu;rcases hu with rfl|rfl|rfl <;> rfl)|exact ⟨rfl,rfl,rfl⟩
            case c3=>first|omega|(unfold maxLen;omega)
            case c4=>omega
            case c5=>first|omega|(simp;omega)
            intro v' w3 hown3 hgrow _
            have hb3:Below w.heap.size w w3:=(hbel.alloc (by omega) _).grown hgrow (by simp;omega) (fun j hj=>(World.ownsRow.lt hown j hj).1)
            have hown4:=tks_push ⟨2,cutB s k j,k⟩ hown3
            clear hown3 hgrow hown
            go_wp2
            go_roundw
            case rel=>exact ⟨j,_,by omega,by go_num,hown4,HS,hb3,by simp;omega⟩
            case measure=>simp [intOf];omega
          ·have HJ2:=Lib.hid (HJ.out.trans (endOf_step hjl hdj))
           clear HJ hend
           go_wp2_with (go_at_call 100;refine (sxDigit_any _ _).mono ?_;rintro e w1 ⟨rfl,rfl⟩)
           go_round
           case rel=>exact ⟨j+1,by omega,by omega,by go_num,HJ2⟩
           case measure=>simp [intOf];omega
         ·have hje:endOf digB s (k+1)=j:=by rw [HJ.out,endOf_end (by omega)]
          have hdc:=digs_cut hlt hd
          have hrn:=fun hg=>rdV_neg hlt hd hg
          have hrp:=fun hg=>rdV_pos hlt hd hg
          have hTL:=fun hg=>tok_long hlt hbl hl hd hg
          have hTN:=fun hg=>tok_num hlt hbl hl hd hg acc
          rw [hje] at hend hdc hrn hrp hTL hTN
          have hcs:=cut_size (s:=s) (k:=k) (j:=j) (by omega) (by omega)
          by_cases hg:j - k > 6∨(j - k > 1∧s[k]=48)
          ·have HE:Hid (R=.error (k,3)):=(show _=_ by rw [HG.out,hTL hg];rfl)
           have HV:=Lib.hid (hrn hg)
           clear HG hbl HJ hje hg hTL hTN hrn hrp
           go_wp2_with (first|(go_at_call 99;refine (sxLetter_any _ _).mono ?_;rintro e w1 ⟨rfl,rfl⟩)|(go_at_call 100;refine (sxDigit_any _ _).mono ?_;rintro e w1 ⟨rfl,rfl⟩)|(go_at_call 101;refine (l1Read_any (cutB s k j) _ (by omega) (by omega) hdc).mono ?_;rintro e w1 ⟨rfl,rfl⟩;rw [HV.out]))
           go_ret3
           rw [HE.out]
           exact ⟨rfl,hbel⟩
          ·have HS:=Lib.hid (HG.out.trans (hTN hg))
           have HV:=Lib.hid (hrp hg)
           have hnn:=numV_nonneg hdc
           clear HG hbl HJ hje hg hTL hTN hrn hrp
           go_wp2_with (first|(go_at_call 99;refine (sxLetter_any _ _).mono ?_;rintro e w1 ⟨rfl,rfl⟩)|(go_at_call 100;refine (sxDigit_any _ _).mono ?_;rintro e w1 ⟨rfl,rfl⟩)|(go_at_call 101;refine (l1Read_any (cutB s k j) _ (by omega) (by omega) hdc).mono ?_;rintro e w1 ⟨rfl,rfl⟩;rw [HV.out])|(at_builtin;refine wpList_append_own _ rfl _ _ 83 rfl w.heap.size 87 i0 _ 3 32 Tryz.underlying83 hi hz0 hz1 hz2 rfl (by decide) _ _ _ rfl (hown.alloc _) ⟨wr.heap.size,0,none⟩ 1 1 [.int .i64 2,.string (cutB s k j),.int .i64 (k:Int)] rfl rfl ?c1 ?c2 ?c3 ?c4 ?c5 ?_))
           case c1 =>
            intro i u hj
            match i,hj with
            | 0,hj=>simp at hj;subst hj;simp [Addr.add]
            | 1,hj=>simp at hj;subst hj;simp [Addr.add,cutB]
            | 2,hj=>simp at hj;subst hj;simp [Addr.add]
           case c2=>first|(intro u hu;simp at hu;rcases hu with rfl|rfl|rfl <;> rfl)|exact ⟨rfl,rfl,rfl⟩
           case c3=>first|omega|(unfold maxLen;omega)
           case c4=>omega
           case c5=>first|omega|(simp;omega)
           intro v' w3 hown3 hgrow _
           have hb3:Below w.heap.size w w3:=(hbel.alloc (by omega) _).grown hgrow (by simp;omega) (fun j hj=>(World.ownsRow.lt hown j hj).1)
           have hown4:=tks_push ⟨2,cutB s k j,k⟩ hown3
           clear hown3 hgrow hown
           go_wp2
           go_roundw
           case rel=>exact ⟨j,_,by omega,by go_num,hown4,HS,hb3,by simp;omega⟩
           case measure=>simp [intOf];omega
      ·have hend:=endOf_le (p:=lodB) (s:=s) (i:=k+1) (by omega)
       clear hy
       go_wp2_with (go_at_call 99;refine (sxLetter_any _ _).mono ?_;rintro e w1 ⟨rfl,rfl⟩)
       go_loop [8] (fun i=>∃ j:Nat,k+1≤j∧j≤s.size∧i=.int .i64 j∧Hid (endOf lodB s (k+1)=endOf lodB s j)) (fun i=>s.size - (intOf i).toNat)
       case atStart=>exact ⟨k+1,Nat.le_refl _,by omega,by go_num,(rfl:Hid (endOf lodB s (k+1)=_))⟩
       case round =>
        obtain ⟨j,hkj,hjs,rfl,HJ⟩:=hrel
        by_cases hjl:j<s.size
        ·cases hlj:lowB s[j]
         ·cases hdj:digB s[j]
          ·have hje:endOf lodB s (k+1)=j:=by rw [HJ.out,endOf_stop hjl (by simp [lodB,hlj,hdj])]
           rw [hje] at hend
           have HS:=Lib.hid (HG.out.trans (tok_word hlt hbl hl acc))
           rw [hje] at HS
           clear HG hbl HJ hje
           go_wp2_with (first|(go_at_call 99;refine (sxLetter_any _ _).mono ?_;rintro e w1 ⟨rfl,rfl⟩)|(go_at_call 100;refine (sxDigit_any _ _).mono ?_;rintro e w1 ⟨rfl,rfl⟩)|(at_builtin;refine wpList_append_own _ rfl _ _ 83 rfl w.heap.size 87 i0 _ 3 32 Tryz.underlying83 hi hz0 hz1 hz2 rfl (by decide) _ _ _ rfl (hown.alloc _) ⟨wr.heap.size,0,none⟩ 1 1 [.int .i64 1,.string (cutB s k j),.int .i64 (k:Int)] rfl rfl ?c1 ?c2 ?c3 ?c4 ?c5 ?_))
           case c1 =>
            intro i u hj
            match i,hj with
            | 0,hj=>simp at hj;subst hj;simp [Addr.add]
            | 1,hj=>simp at hj;subst hj;simp [Addr.add,cutB]
            | 2,hj=>simp at hj;subst hj;simp [Addr.add]
           case c2=>first|(intro u hu;simp at hu;rcases hu with rfl|rfl|rfl <;> rfl)|exact ⟨rfl,rfl,rfl⟩
           case c3=>first|omega|(unfold maxLen;omega)
           case c4=>omega
           case c5=>first|omega|(simp;omega)
           intro v' w3 hown3 hgrow _
           have hb3:Below w.heap.size w w3:=(hbel.alloc (by omega) _).grown hgrow (by simp;omega) (fun j hj=>(World.ownsRow.lt hown j hj).1)
           have hown4:=tks_push ⟨1,cutB s k j,k⟩ hown3
           clear hown3 hgrow hown
           go_wp2
           go_roundw
           case rel=>exact ⟨j,_,by omega,by go_num,hown4,HS,hb3,by simp;omega⟩
           case measure=>simp [intOf];omega
          ·have HJ2:=Lib.hid (HJ.out.trans (endOf_step hjl (by simp [lodB,hdj])))
           clear HJ hend
           go_wp2_with (first|(go_at_call 99;refine (sxLetter_any _ _).mono ?_;rintro e w1 ⟨rfl,rfl⟩)|(go_at_call 100;refine (sxDigit_any _ _).mono ?_;rintro e w1 ⟨rfl,rfl⟩))
           go_round
           case rel=>exact ⟨j+1,by omega,by omega,by go_num,HJ2⟩
           case measure=>simp [intOf];omega
         ·have HJ2:=Lib.hid (HJ.out.trans (endOf_step hjl (by simp [lodB,hlj])))
          clear HJ hend
          go_wp2_with (first|(go_at_call 99;refine (sxLetter_any _ _).mono ?_;rintro e w1 ⟨rfl,rfl⟩)|(go_at_call 100;refine (sxDigit_any _ _).mono ?_;rintro e w1 ⟨rfl,rfl⟩))
          go_round
          case rel=>exact ⟨j+1,by omega,by omega,by go_num,HJ2⟩
          case measure=>simp [intOf];omega
        ·have hje:endOf lodB s (k+1)=j:=by rw [HJ.out,endOf_end (by omega)]
         rw [hje] at hend
         have HS:=Lib.hid (HG.out.trans (tok_word hlt hbl hl acc))
         rw [hje] at HS
         clear HG hbl HJ hje
         go_wp2_with (first|(go_at_call 99;refine (sxLetter_any _ _).mono ?_;rintro e w1 ⟨rfl,rfl⟩)|(go_at_call 100;refine (sxDigit_any _ _).mono ?_;rintro e w1 ⟨rfl,rfl⟩)|(at_builtin;refine wpList_append_own _ rfl _ _ 83 rfl w.heap.size 87 i0 _ 3 32 Tryz.underlying83 hi hz0 hz1 hz2 rfl (by decide) _ _ _ rfl (hown.alloc _) ⟨wr.heap.size,0,none⟩ 1 1 [.int .i64 1,.string (cutB s k j),.int .i64 (k:Int)] rfl rfl ?c1 ?c2 ?c3 ?c4 ?c5 ?_))
         case c1 =>
          intro i u hj
          match i,hj with
          | 0,hj=>simp at hj;subst hj;simp [Addr.add]
          | 1,hj=>simp at hj;subst hj;simp [Addr.add,cutB]
          | 2,hj=>simp at hj;subst hj;simp [Addr.add]
         case c2=>first|(intro u hu;simp at hu;rcases hu with rfl|rfl|rfl <;> rfl)|exact ⟨rfl,rfl,rfl⟩
         case c3=>first|omega|(unfold maxLen;omega)
         case c4=>omega
         case c5=>first|omega|(simp;omega)
         intro v' w3 hown3 hgrow _
         have hb3:Below w.heap.size w w3:=(hbel.alloc (by omega) _).grown hgrow (by simp;omega) (fun j hj=>(World.ownsRow.lt hown j hj).1)
         have hown4:=tks_push ⟨1,cutB s k j,k⟩ hown3
         clear hown3 hgrow hown
         go_wp2
         go_roundw
         case rel=>exact ⟨j,_,by omega,by go_num,hown4,HS,hb3,by simp;omega⟩
         case measure=>simp [intOf];omega
     ·have hyl:=hy
      have hlo:lowB s[k]=false∧digB s[k]=false:=by
       simp only [symB,Bool.or_eq_true,beq_iff_eq] at hyl
       rcases hyl with ((((h|h)|h)|h)|h)|h <;> rw [h] <;> decide
      have HS:=Lib.hid (HG.out.trans (tok_sym hlt hbl hlo.1 hlo.2 hy acc))
      simp only [symB,Bool.or_eq_true,beq_iff_eq] at hyl
      have hcase:SymAt s[k]:=sym_at hyl
      clear hbl HG hyl hlo hy
      rcases hcase with hc1|⟨hc1,hc2⟩|⟨hc1,hc2,hc3⟩|⟨hc1,hc2,hc3,hc4⟩|⟨hc1,hc2,hc3,hc4,hc5⟩|⟨hc1,hc2,hc3,hc4,hc5,hc6⟩
      all_goals
       go_wp2_with (at_builtin;refine wpList_append_own _ rfl _ _ 83 rfl w.heap.size 87 i0 _ 3 32 Tryz.underlying83 hi hz0 hz1 hz2 rfl (by decide) _ _ _ rfl (hown.alloc _) ⟨wr.heap.size,0,none⟩ 1 1 [.int .i64 3,.string (cutB s k (k+1)),.int .i64 (k:Int)] rfl rfl ?c1 ?c2 ?c3 ?c4 ?c5 ?_)
       case c1 =>
        intro i u hj
        match i,hj with
        | 0,hj=>simp at hj;subst hj;simp [Addr.add]
        | 1,hj=>simp at hj;subst hj;simp [Addr.add,cutB]
        | 2,hj=>simp at hj;subst hj;simp [Addr.add]
       case c2=>first|(intro u hu;simp at hu;rcases hu with rfl|rfl|rfl <;> rfl)|exact ⟨rfl,rfl,rfl⟩
       case c3=>first|omega|(unfold maxLen;omega)
       case c4=>omega
       case c5=>first|omega|(simp;omega)
       intro v' w3 hown3 hgrow _
       have hb3:Below w.heap.size w w3:=(hbel.alloc (by omega) _).grown hgrow (by simp;omega) (fun j hj=>(World.ownsRow.lt hown j hj).1)
       have hown4:=tks_push ⟨3,cutB s k (k+1),k⟩ hown3
       clear hown3 hgrow hown
       go_wp2
       go_roundw
       case rel=>exact ⟨(k+1),_,by omega,by go_num,hown4,HS,hb3,by simp;omega⟩
       case measure=>simp [intOf];omega
   ·have hks:k=s.size:=by omega
    have HE:Hid (R=.ok acc):=(show _=_ by rw [HG.out,tok_end (by omega)];simp [glue])
    clear HG
    go_wp2
    go_ret3
    rw [HE.out]
    exact ⟨_,rfl,hown,hbel⟩
 ·have g4:(40000:Int)<s.size:=by omega
  rw [show tokL s=.error (0,1) by unfold tokL;rw [if_pos (by omega)]]
  go_enter Tryz.func45,Tryz.ntmps45
  go_wp2
  go_ret3
  exact ⟨rfl,Below.refl _ _⟩
end Go.Proofs.YtbljmfcifljkaaaGreatDoor
/-
  What the tokens of a text are like. Own work.
-/
namespace Go.Proofs.YtbljmfcifljkaaaGreatDoor
open Go.RowKit
structure TokOk (t:Tk):Prop where
 size:t.text.size≤40000
 word:t.kind=1 → 1≤t.text.size
 num:t.kind=2 → Digs t.text∧1≤t.text.size∧t.text.size≤6∧rdV t.text=numV t.text
def TksOk (ts:List Tk):Prop:=∀ t ∈ ts,TokOk t
theorem TksOk.tail {t:Tk} {r:List Tk} (h:TksOk (t :: r)):TksOk r:=fun x hx=>h x (List.mem_cons_of_mem _ hx)
theorem TksOk.head {t:Tk} {r:List Tk} (h:TksOk (t :: r)):TokOk t:=h t (List.mem_cons_self ..)
theorem TksOk.drop {ts:List Tk} (h:TksOk ts) (n:Nat):TksOk (ts.drop n):=fun x hx=>h x (List.mem_of_mem_drop hx)
def posAt (ts:List Tk) (en:Int):Int:=match ts with
 | t :: _=>t.pos
 | []=>en
theorem decFrom_numG:∀ (l:List UInt8) (acc:Nat),(∀ b ∈ l,digB b=true) → ∃ m:Nat,Lib.decFrom acc l=some m∧(m:Int)=numG l acc
 | [],acc,_=>⟨acc,rfl,rfl⟩
 | b :: r,acc,h=>by
  have hb:=h b (List.mem_cons_self ..)
  simp only [digB,Bool.and_eq_true,decide_eq_true_eq] at hb
  have hd:Lib.digitVal b=some (b.toNat - 48):=by unfold Lib.digitVal;rw [if_pos (by omega)]
  obtain ⟨m,h1,h2⟩:=decFrom_numG r (acc * 10+(b.toNat - 48)) (fun x hx=>h x (List.mem_cons_of_mem _ hx))
  refine ⟨m,by simp only [Lib.decFrom,hd];exact h1,?_⟩
  rw [h2,numG]
  congr 1
  omega
theorem atoi_digs {s:ByteArray} (h:Digs s) (h1:1≤s.size):Lib.atoi s.data.toList=some (numV s):=by
 have hl:s.data.toList.length=s.size:=by simp
 have hm:=digs_mem h
 unfold numV
 rw [numG_eq]
 generalize s.data.toList=l at *
 cases l with
 | nil=>simp at hl;omega
 | cons b r =>
  obtain ⟨m,e1,e2⟩:=decFrom_numG (b :: r) 0 hm
  have hb:=hm b (List.mem_cons_self ..)
  simp only [digB,Bool.and_eq_true,decide_eq_true_eq] at hb
  have n1:(b == 45)=false:=by rw [beq_eq_false_iff_ne];rintro rfl;simp at hb
  have n2:(b == 43)=false:=by rw [beq_eq_false_iff_ne];rintro rfl;simp at hb
  simp only [Lib.atoi,n1,n2,Bool.false_eq_true,if_false,Lib.decNat,List.isEmpty_cons,e1,Option.map_some]
  rw [e2];rfl
theorem tokOk1 {x:ByteArray} {p:Int} (h1:1≤x.size) (h:x.size≤40000):TokOk ⟨1,x,p⟩:=⟨h,fun _=>h1,fun h=>absurd h (by show ¬ (1:Int)=2;decide)⟩
theorem tokOk2 {x:ByteArray} {p:Int} (h:x.size≤40000) (hd:Digs x∧1≤x.size∧x.size≤6∧rdV x=numV x):TokOk ⟨2,x,p⟩:=⟨h,fun h=>absurd h (by show ¬ (2:Int)=1;decide),fun _=>hd⟩
theorem tokOk3 {x:ByteArray} {p:Int} (h:x.size≤40000):TokOk ⟨3,x,p⟩:=⟨h,fun h=>absurd h (by show ¬ (3:Int)=1;decide),fun h=>absurd h (by show ¬ (3:Int)=2;decide)⟩
theorem tokFrom_ok (s:ByteArray) (hs:s.size≤40000):∀ (n k:Nat),s.size - k=n → ∀ ts,tokFrom s k=.ok ts → TksOk ts∧ts.length≤n:=by
 intro n
 induction n using Nat.strongRecOn with
 | _ n ih =>
  intro k hn ts h
  have key:∀ (x:Tk) (j:Nat),k<j → k<s.size → TokOk x → glue [] (tokFrom s k)=glue ([] ++ [x]) (tokFrom s j) → TksOk ts∧ts.length≤n:=by
   intro x j hj hk hx e
   rw [glue_nil,h] at e
   cases hr:tokFrom s j with
   | error p=>rw [hr] at e;simp [glue] at e
   | ok r =>
    rw [hr] at e
    simp only [glue,List.nil_append,List.cons_append,Except.ok.injEq] at e
    subst e
    obtain ⟨h1,h2⟩:=ih (s.size - j) (by omega) j rfl r hr
    refine ⟨?_,by simp;omega⟩
    intro t ht
    rcases List.mem_cons.1 ht with rfl|ht
    ·exact hx
    ·exact h1 t ht
  by_cases hk:k<s.size
  ·by_cases hb:s[k]=32∨s[k]=10
   ·rw [tok_blank hk hb] at h
    obtain ⟨h1,h2⟩:=ih (s.size - (k+1)) (by omega) (k+1) rfl ts h
    exact ⟨h1,by omega⟩
   cases hl:lowB s[k] with
   | true =>
    have he:=endOf_le (p:=lodB) (s:=s) (i:=k+1) hk
    have hz:=cut_size (s:=s) (k:=k) (j:=endOf lodB s (k+1)) (by omega) he.2
    exact key ⟨1,cutB s k (endOf lodB s (k+1)),k⟩ (endOf lodB s (k+1)) (by omega) hk (tokOk1 (by rw [hz];omega) (by rw [hz];omega)) (tok_word hk hb hl [])
   | false =>
    cases hd:digB s[k] with
    | true =>
     by_cases hg:endOf digB s (k+1) - k > 6∨(endOf digB s (k+1) - k > 1∧s[k]=48)
     ·rw [tok_long hk hb hl hd hg] at h;cases h
     ·have he:=endOf_le (p:=digB) (s:=s) (i:=k+1) hk
      have hz:=cut_size (s:=s) (k:=k) (j:=endOf digB s (k+1)) (by omega) he.2
      exact key ⟨2,cutB s k (endOf digB s (k+1)),k⟩ (endOf digB s (k+1)) (by omega) hk (tokOk2 (by rw [hz];omega) ⟨digs_cut hk hd,by rw [hz];omega,by rw [hz];omega,rdV_pos hk hd hg⟩) (tok_num hk hb hl hd hg [])
    | false =>
     cases hs2:symB s[k] with
     | true =>
      have hz:=cut_size (s:=s) (k:=k) (j:=k+1) (by omega) (by omega)
      exact key ⟨3,cutB s k (k+1),k⟩ (k+1) (Nat.lt_succ_self k) hk (tokOk3 (by rw [hz];omega)) (tok_sym hk hb hl hd hs2 [])
     | false=>rw [tok_bad hk hb hl hd hs2] at h;cases h
  ·rw [tok_end (by omega)] at h
   cases h
   simp [TksOk]
theorem tokL_ok {s:ByteArray} {ts:List Tk} (h:tokL s=.ok ts):TksOk ts∧ts.length≤40000∧s.size≤40000:=by
 unfold tokL at h
 split at h
 ·cases h
 ·rename_i hs
  obtain ⟨h1,h2⟩:=tokFrom_ok s (by omega) _ 0 rfl ts h
  exact ⟨h1,by omega,by omega⟩
end Go.Proofs.YtbljmfcifljkaaaGreatDoor
/-
  What a reading leaves behind: nodes in their order, a rest of the tokens. No program in sight. Own work.
-/
namespace Go.Proofs.YtbljmfcifljkaaaGreatDoor
open Go.RowKit
def wfN:Rd → Nat → Option Nat
 | [],k=>some k
 | x :: r,k=>if x.1.kind=15∨x.1.kind=16 then (if 2≤k then wfN r (k - 1) else none) else wfN r (k+1)
theorem wfN_append (a b:Rd) (k:Nat):wfN (a ++ b) k=(wfN a k).bind (wfN b):=by
 induction a generalizing k with
 | nil=>rfl
 | cons x r ih =>
  simp only [List.cons_append,wfN]
  split
  ·split
   ·exact ih _
   ·rfl
  ·exact ih _
structure PNd (n:Nd):Prop where
 size:n.name.size≤40000
 val:n.kind=17 → n.value=0
 op:n.kind=15∨n.kind=16 → n.value=0∧n.name=ByteArray.empty
theorem opNd (k:Int) (hk:k ≠ 17):PNd ⟨k,0,⟨#[]⟩⟩:=⟨by simp [ByteArray.size],fun h=>absurd h hk,fun _=>⟨rfl,rfl⟩⟩
def Rd1 (nw:Rd):Prop:=∀ k,wfN nw k=some (k+1)
def Rd0 (nw:Rd):Prop:=∀ k,1≤k → wfN nw k=some k
structure RdOk (W:Rd → Prop) (ts:List Tk) (out:Rd) (r:PRes):Prop where
 suf:∃ n,r.rest=ts.drop n
 new:r.bad=false → ∃ nw,r.out=out ++ nw∧W nw∧∀ x ∈ nw,PNd x.1
theorem rdOk_bad {W:Rd → Prop} {ts:List Tk} {out o:Rd} {r:List Tk} (h:∃ n,r=ts.drop n):RdOk W ts out ⟨true,r,o⟩:=⟨h,fun hb=>by cases hb⟩
theorem p_row {ts r:List Tk} {out o:Rd} {res:PRes} (h1:RdOk Rd1 ts out ⟨false,r,o⟩) (h2:RdOk Rd0 r o res):RdOk Rd1 ts out res:=by
 obtain ⟨n,hn⟩:=h1.suf
 obtain ⟨m,hm⟩:=h2.suf
 refine ⟨⟨n+m,by rw [hm];simp only at hn;rw [hn,List.drop_drop]⟩,fun hb=>?_⟩
 obtain ⟨a,ha,wa,pa⟩:=h1.new rfl
 obtain ⟨b,hb',wb,pb⟩:=h2.new hb
 refine ⟨a ++ b,by rw [hb'];simp only at ha;rw [ha,List.append_assoc],fun k=>by rw [wfN_append,wa k];exact wb (k+1) (by omega),?_⟩
 intro x hx
 rcases List.mem_append.1 hx with hx|hx
 ·exact pa x hx
 ·exact pb x hx
theorem p_rows {ts r:List Tk} {out o:Rd} {op:Nd × Int} {res:PRes} (hop:op.1.kind=15∨op.1.kind=16) (hp:PNd op.1) (h1:RdOk Rd1 ts.tail out ⟨false,r,o⟩) (h2:RdOk Rd0 r (o ++ [op]) res):RdOk Rd0 ts out res:=by
 obtain ⟨n,hn⟩:=h1.suf
 obtain ⟨m,hm⟩:=h2.suf
 refine ⟨⟨1+n+m,by rw [hm];simp only at hn;rw [hn,← List.drop_one,List.drop_drop,List.drop_drop,Nat.add_assoc]⟩,fun hb=>?_⟩
 obtain ⟨a,ha,wa,pa⟩:=h1.new rfl
 obtain ⟨b,hb',wb,pb⟩:=h2.new hb
 refine ⟨a ++ [op] ++ b,by rw [hb'];simp only at ha;rw [ha];simp,fun k hk=>?_,?_⟩
 ·rw [wfN_append,wfN_append,wa k]
  simp only [Option.bind_some,wfN,if_pos hop]
  rw [if_pos (by omega)]
  exact wb k hk
 ·intro x hx
  rcases List.mem_append.1 hx with hx|hx
  ·rcases List.mem_append.1 hx with hx|hx
   ·exact pa x hx
   ·simp at hx;subst hx;exact hp
  ·exact pb x hx
theorem wordFrom_ne (s:ByteArray) (d:Int):∀ (l:List ByteArray) (k:Nat),wordFrom s d l k=d∨∃ j:Nat,wordFrom s d l k=(j:Int)∧j<k+l.length
 | [],k=>.inl rfl
 | x :: r,k=>by
  unfold wordFrom
  split
  ·exact .inr ⟨k,rfl,by simp⟩
  ·rcases wordFrom_ne s d r (k+1) with h|⟨j,h1,h2⟩
   ·exact .inl h
   ·exact .inr ⟨j,h1,by simp;omega⟩
theorem kindOfW_cases (s:ByteArray):kindOfW s=17∨(0≤kindOfW s∧kindOfW s≤14):=by
 unfold kindOfW
 rcases wordFrom_ne s 17 kwords 0 with h|⟨j,h1,h2⟩
 ·exact .inl h
 ·refine .inr ?_
  have:kwords.length=15:=rfl
  rw [h1];omega
theorem rd1_leaf {x:Nd × Int} (h:¬ (x.1.kind=15∨x.1.kind=16)):Rd1 [x]:=fun k=>by simp [wfN,h]
theorem p_ok:∀ f:Nat,(∀ ts out,TksOk ts → RdOk Rd1 ts out (pPart f ts out))∧(∀ ts out,TksOk ts → RdOk Rd1 ts out (pRow f ts out))∧(∀ ts out,TksOk ts → RdOk Rd0 ts out (pRows f ts out)) ∧
  (∀ ts out,TksOk ts → RdOk Rd1 ts out (pTerm f ts out))∧(∀ ts out,TksOk ts → RdOk Rd0 ts out (pTerms f ts out))
 | f=>by
  have rest:∀ {W:Rd → Prop} {ts:List Tk} {out:Rd} {r:PRes},TksOk ts → RdOk W ts out r → TksOk r.rest:=fun ht h=>by
   obtain ⟨n,hn⟩:=h.suf;rw [hn];exact ht.drop n
  have hpart:∀ ts out,TksOk ts → RdOk Rd1 ts out (pPart f ts out):=by
   intro ts out ht
   rw [pPart.eq_def]
   cases f with
   | zero=>exact rdOk_bad ⟨0,rfl⟩
   | succ f =>
    obtain ⟨_,_,_,hT,_⟩:=p_ok f
    simp only
    by_cases hy:isSym ts 40=true
    ·rw [if_pos hy]
     have h1:=hT ts.tail out (by rw [← List.drop_one];exact ht.drop 1)
     have ht1:∀ n,ts.tail.drop n=ts.drop (1+n):=fun n=>by rw [← List.drop_one,List.drop_drop]
     cases hq:pTerm f ts.tail out with
     | mk bad r o =>
      rw [hq] at h1
      obtain ⟨n,hn⟩:=h1.suf
      simp only at hn
      cases bad with
      | true=>exact rdOk_bad ⟨1+n,by rw [hn,ht1]⟩
      | false =>
       simp only
       split
       ·refine ⟨⟨1+n+1,by show r.tail=_;rw [hn,ht1,← List.drop_one,List.drop_drop]⟩,fun _=>h1.new rfl⟩
       ·exact rdOk_bad ⟨1+n,by rw [hn,ht1]⟩
    ·rw [if_neg hy]
     cases ts with
     | nil=>exact rdOk_bad ⟨0,rfl⟩
     | cons t r =>
      simp only
      by_cases hk:t.kind=1
      ·rw [if_pos hk]
       have hts:=ht.head.size
       by_cases hv:kindOfW t.text=1∨kindOfW t.text=7∨kindOfW t.text=13
       ·rw [if_pos hv]
        cases r with
        | nil=>exact rdOk_bad ⟨1,rfl⟩
        | cons n r2 =>
         simp only
         split
         ·refine ⟨⟨2,rfl⟩,fun _=>⟨_,rfl,rd1_leaf ?_,?_⟩⟩
          ·simp only;omega
          ·intro x hx;simp at hx;subst hx;exact ⟨by simp [ByteArray.size],fun h=>by simp only at h;omega,fun h=>by simp only at h;omega⟩
         ·exact rdOk_bad ⟨1,rfl⟩
       ·rw [if_neg hv]
        refine ⟨⟨1,rfl⟩,fun _=>⟨_,rfl,rd1_leaf ?_,?_⟩⟩
        ·have:=kindOfW_cases t.text;simp only [nodeOf];omega
        ·intro x hx;simp at hx;subst hx
         refine ⟨?_,fun _=>rfl,fun h=>?_⟩
         ·simp only [nodeOf]
          split
          ·exact hts
          ·simp [ByteArray.size]
         ·have:=kindOfW_cases t.text;simp only [nodeOf] at h;omega
      ·rw [if_neg hk]
       exact rdOk_bad ⟨0,rfl⟩
  have hrows:∀ ts out,TksOk ts → RdOk Rd0 ts out (pRows f ts out):=by
   intro ts out ht
   rw [pRows.eq_def]
   have stop:RdOk Rd0 ts out ⟨false,ts,out⟩:=⟨⟨0,rfl⟩,fun _=>⟨[],by simp,fun k _=>rfl,by simp⟩⟩
   cases f with
   | zero =>
    simp only
    cases isSym ts 42
    ·exact stop
    ·exact rdOk_bad ⟨0,rfl⟩
   | succ f =>
    obtain ⟨hP,_,hR,_,_⟩:=p_ok f
    simp only
    by_cases hy:isSym ts 42=true
    ·rw [if_pos hy]
     have htt:TksOk ts.tail:=by rw [← List.drop_one];exact ht.drop 1
     have h1:=hP ts.tail out htt
     cases hq:pPart f ts.tail out with
     | mk bad r o =>
      rw [hq] at h1
      cases bad with
      | true=>obtain ⟨n,hn⟩:=h1.suf;exact rdOk_bad ⟨1+n,by simp only at hn;rw [hn,← List.drop_one,List.drop_drop]⟩
      | false=>exact p_rows (.inr rfl) (opNd _ (by decide)) h1 (hR _ _ (rest htt h1))
    ·rw [if_neg hy]
     exact stop
  have hrow:∀ ts out,TksOk ts → RdOk Rd1 ts out (pRow f ts out):=by
   intro ts out ht
   rw [pRow.eq_def]
   have h1:=hpart ts out ht
   cases hq:pPart f ts out with
   | mk bad r o =>
    rw [hq] at h1
    cases bad with
    | true=>exact rdOk_bad h1.suf
    | false=>exact p_row h1 (hrows _ _ (rest ht h1))
  have hterms:∀ ts out,TksOk ts → RdOk Rd0 ts out (pTerms f ts out):=by
   intro ts out ht
   rw [pTerms.eq_def]
   have stop:RdOk Rd0 ts out ⟨false,ts,out⟩:=⟨⟨0,rfl⟩,fun _=>⟨[],by simp,fun k _=>rfl,by simp⟩⟩
   cases f with
   | zero =>
    simp only
    cases isSym ts 59
    ·exact stop
    ·exact rdOk_bad ⟨0,rfl⟩
   | succ f =>
    obtain ⟨_,hP,_,_,hR⟩:=p_ok f
    simp only
    by_cases hy:isSym ts 59=true
    ·rw [if_pos hy]
     have htt:TksOk ts.tail:=by rw [← List.drop_one];exact ht.drop 1
     have h1:=hP ts.tail out htt
     cases hq:pRow f ts.tail out with
     | mk bad r o =>
      rw [hq] at h1
      cases bad with
      | true=>obtain ⟨n,hn⟩:=h1.suf;exact rdOk_bad ⟨1+n,by simp only at hn;rw [hn,← List.drop_one,List.drop_drop]⟩
      | false=>exact p_rows (.inl rfl) (opNd _ (by decide)) h1 (hR _ _ (rest htt h1))
    ·rw [if_neg hy]
     exact stop
  have hterm:∀ ts out,TksOk ts → RdOk Rd1 ts out (pTerm f ts out):=by
   intro ts out ht
   rw [pTerm.eq_def]
   have h1:=hrow ts out ht
   cases hq:pRow f ts out with
   | mk bad r o =>
    rw [hq] at h1
    cases bad with
    | true=>exact rdOk_bad h1.suf
    | false=>exact p_row h1 (hterms _ _ (rest ht h1))
  exact ⟨hpart,hrow,hrows,hterm,hterms⟩
end Go.Proofs.YtbljmfcifljkaaaGreatDoor
/-
  The check of nodes that have been read, and readings of texts as plain functions. No program in sight. Own work.
-/
namespace Go.Proofs.YtbljmfcifljkaaaGreatDoor
open Go.RowKit
def chkGo (leaf:Nd → Option W2):Rd → Nat → List W2 → Option (Int × Int)
 | [],_,_=>none
 | x :: r,i,st =>
  if 400≤i then some (x.2,1)
  else if x.1.kind=15∨x.1.kind=16 then
   (match st with
   | b :: a :: st'=>(match joinW x.1.kind a b with
    | some w=>chkGo leaf r (i+1) (w :: st')
    | none=>some (x.2,7))
   | _=>some (x.2,7))
  else (match leaf x.1 with
   | some w=>chkGo leaf r (i+1) (w :: st)
   | none=>some (x.2,if x.1.kind=17 then 5 else 6))
section
variable {leaf:Nd → Option W2} {x:Nd × Int} {r:Rd} {i:Nat} {st:List W2}
theorem chk_long (h:400≤i):chkGo leaf (x :: r) i st=some (x.2,1):=by unfold chkGo;rw [if_pos h]
theorem chk_join {a b w:W2} (h:¬ 400≤i) (hk:x.1.kind=15∨x.1.kind=16) (hj:joinW x.1.kind a b=some w):chkGo leaf (x :: r) i (b :: a :: st)=chkGo leaf r (i+1) (w :: st):=by
 conv=>lhs;unfold chkGo
 rw [if_neg h,if_pos hk];simp only [hj]
theorem chk_nojoin {a b:W2} (h:¬ 400≤i) (hk:x.1.kind=15∨x.1.kind=16) (hj:joinW x.1.kind a b=none):chkGo leaf (x :: r) i (b :: a :: st)=some (x.2,7):=by
 conv=>lhs;unfold chkGo
 rw [if_neg h,if_pos hk];simp only [hj]
theorem chk_leaf {w:W2} (h:¬ 400≤i) (hk:¬ (x.1.kind=15∨x.1.kind=16)) (hl:leaf x.1=some w):chkGo leaf (x :: r) i st=chkGo leaf r (i+1) (w :: st):=by
 conv=>lhs;unfold chkGo
 rw [if_neg h,if_neg hk];simp only [hl]
theorem chk_noleaf (h:¬ 400≤i) (hk:¬ (x.1.kind=15∨x.1.kind=16)) (hl:leaf x.1=none):chkGo leaf (x :: r) i st=some (x.2,if x.1.kind=17 then 5 else 6):=by
 conv=>lhs;unfold chkGo
 rw [if_neg h,if_neg hk];simp only [hl]
end
theorem chkGo_congr {f g:Nd → Option W2} (h:∀ n,¬ (n.kind=15∨n.kind=16) → f n=g n):∀ (r:Rd) (i:Nat) (st:List W2),chkGo f r i st=chkGo g r i st
 | [],_,_=>rfl
 | x :: r,i,st=>by
  by_cases hi:400≤i
  ·rw [chk_long hi,chk_long hi]
  by_cases hk:x.1.kind=15∨x.1.kind=16
  ·match st with
   | b :: a :: st' =>
    cases hj:joinW x.1.kind a b with
    | some w=>rw [chk_join hi hk hj,chk_join hi hk hj];exact chkGo_congr h r (i+1) (w :: st')
    | none=>rw [chk_nojoin hi hk hj,chk_nojoin hi hk hj]
   | []=>simp [chkGo,hi,hk]
   | [_]=>simp [chkGo,hi,hk]
  ·have e:=h x.1 hk
   cases hl:g x.1 with
   | some w=>rw [chk_leaf hi hk (e.trans hl),chk_leaf hi hk hl];exact chkGo_congr h r (i+1) (w :: st)
   | none=>rw [chk_noleaf hi hk (e.trans hl),chk_noleaf hi hk hl]
theorem chk_typed {leaf:Nd → Option W2}:∀ (r:Rd) (i:Nat) (st:List W2) (m:Nat),chkGo leaf r i st=none → wfN r st.length=some m → (∀ x ∈ r,PNd x.1) → (r=[]∨i+r.length≤400)∧∃ st',typedGo leaf (r.map Prod.fst) st=some st'∧st'.length=m
 | [],i,st,m,_,hw,_=>by simp [wfN] at hw;exact ⟨.inl rfl,st,by simp [typedGo],hw⟩
 | x :: r,i,st,m,hc,hw,hp=>by
  have hpr:∀ y ∈ r,PNd y.1:=fun y hy=>hp y (List.mem_cons_of_mem _ hy)
  have hpx:=hp x (List.mem_cons_self ..)
  by_cases hi:400≤i
  ·rw [chk_long hi] at hc;cases hc
  have len:∀ {r':Rd},(r'=[]∨i+1+r'.length≤400) → i+(x :: r').length≤400:=fun h=>by
   rcases h with h|h
   ·subst h;simp;omega
   ·simp;omega
  by_cases hk:x.1.kind=15∨x.1.kind=16
  ·unfold wfN at hw
   rw [if_pos hk] at hw
   match st,hw,hc with
   | b :: a :: st',hw,hc =>
    cases hj:joinW x.1.kind a b with
    | none=>rw [chk_nojoin hi hk hj] at hc;cases hc
    | some w =>
     rw [chk_join hi hk hj] at hc
     rw [if_pos (by simp)] at hw
     obtain ⟨h1,st2,h2,h3⟩:=chk_typed r (i+1) (w :: st') m hc (by simpa using hw) hpr
     refine ⟨.inr (len h1),st2,?_,h3⟩
     rw [List.map_cons]
     conv=>lhs;unfold typedGo
     rw [if_pos hk,if_pos (hpx.op hk)]
     simp only [hj]
     exact h2
   | [],hw,hc=>simp at hw
   | [_],hw,hc=>simp at hw
  ·unfold wfN at hw
   rw [if_neg hk] at hw
   cases hl:leaf x.1 with
   | none=>rw [chk_noleaf hi hk hl] at hc;cases hc
   | some w =>
    rw [chk_leaf hi hk hl] at hc
    obtain ⟨h1,st2,h2,h3⟩:=chk_typed r (i+1) (w :: st) m hc (by simpa using hw) hpr
    refine ⟨.inr (len h1),st2,?_,h3⟩
    rw [List.map_cons,typedGo_push hk hl]
    exact h2
theorem chk_type {leaf:Nd → Option W2} {r:Rd} (hc:chkGo leaf r 0 []=none) (hw:wfN r 0=some 1) (hp:∀ x ∈ r,PNd x.1):∃ t,typedL leaf (r.map Prod.fst)=some t:=by
 obtain ⟨h1,st,h2,h3⟩:=chk_typed r 0 [] 1 hc hw hp
 have hne:r ≠ []:=by rintro rfl;simp [wfN] at hw
 have hl:1≤r.length:=by cases r with|nil=>exact absurd rfl hne|cons x r=>simp
 have h4:=h1.resolve_left hne
 match st,h3,h2 with
 | [t],_,h2 =>
  refine ⟨t,?_⟩
  unfold typedL
  rw [if_pos (by simp;omega),h2]
def wholeL (L:List Df) (en:Int) (ts:List Tk):Except (Int × Int) (List Nd) :=
 match pTerm ts.length ts [] with
 | ⟨true,r,_⟩=>.error (posAt r en,4)
 | ⟨false,r,o⟩ =>
  if r ≠ [] then .error (posAt r en,4) else
  match chkGo (leafIn L) o 0 [] with
  | some p=>.error p
  | none=>.ok (o.map Prod.fst)
theorem whole_typed {L:List Df} {en:Int} {ts:List Tk} {ns:List Nd} (ht:TksOk ts) (h:wholeL L en ts=.ok ns):∃ t,typedL (leafIn L) ns=some t:=by
 unfold wholeL at h
 have hr:=(p_ok ts.length).2.2.2.1 ts [] ht
 cases hq:pTerm ts.length ts [] with
 | mk bad r o =>
  rw [hq] at h hr
  cases bad with
  | true=>cases h
  | false =>
   simp only at h
   split at h
   ·cases h
   ·cases hc:chkGo (leafIn L) o 0 [] with
    | some p=>rw [hc] at h;cases h
    | none =>
     rw [hc] at h
     simp only [Except.ok.injEq] at h
     subst h
     obtain ⟨nw,h1,h2,h3⟩:=hr.new rfl
     simp only [List.nil_append] at h1
     subst h1
     exact chk_type hc (h2 0) h3
end Go.Proofs.YtbljmfcifljkaaaGreatDoor
