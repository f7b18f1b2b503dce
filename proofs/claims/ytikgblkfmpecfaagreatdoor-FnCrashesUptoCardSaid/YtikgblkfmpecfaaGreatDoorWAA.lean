/-
  Tokens and parsing without a program in sight. Own work.
-/
import Derived.Test.YtikgblkfmpecfaaGreatDoorWC
import Derived.Test.YtikgblkfmpecfaaGreatDoorWE
import Derived.Test.YtikgblkfmpecfaaGreatDoorWT
import Derived.Lib.Atoi
import Derived.Test.YtikgblkfmpecfaaGreatDoorWF
set_option linter.all false
set_option maxRecDepth 100000
set_option maxHeartbeats 8000000
namespace Go.Proofs.YtikgblkfmpecfaaGreatDoor
open Go.RowKit
structure Tk where
 kind:Int
 text:ByteArray
 pos:Int
 deriving DecidableEq
def endOf (p:UInt8->Bool) (s:ByteArray) (i:Nat):Nat:=i+((s.data.toList.drop i).takeWhile p).length
theorem wQ {p:UInt8->Bool} {s:ByteArray} {i:Nat} (h:i<s.size) (hp:p s[i]=true):endOf p s i=endOf p s (i+1):=by
 unfold endOf;rw[List.drop_eq_getElem_cons (by simpa using h)];have e:s.data.toList[i]'(by simpa using h)=s[i]:=rfl;rw[List.takeWhile_cons,e,if_pos hp,List.length_cons];omega
theorem ES {p:UInt8->Bool} {s:ByteArray} {i:Nat} (h:i<s.size) (hp:p s[i]=false):endOf p s i=i:=by
 unfold endOf;rw[List.drop_eq_getElem_cons (by simpa using h)];have e:s.data.toList[i]'(by simpa using h)=s[i]:=rfl;rw[List.takeWhile_cons,e,if_neg (by simp[hp])];simp
theorem IG {p:UInt8->Bool} {s:ByteArray} {i:Nat} (h:s.size<=i):endOf p s i=i:=by
 unfold endOf;rw[List.drop_eq_nil_of_le (by simpa using h)];simp
theorem oH {p:UInt8->Bool} {s:ByteArray} {i:Nat} (h:i<=s.size):i<=endOf p s i/\endOf p s i<=s.size:=by
 unfold endOf;refine⟨by omega,?_⟩;have h1:=(List.takeWhile_sublist p (l:=s.data.toList.drop i)).length_le;have h2:(s.data.toList.drop i).length=s.size-i:=by simp
 omega
def lI (b:UInt8):Bool:=b==59 || b==42 || b==40 || b==41 || b==61 || b==58
def dh (s:ByteArray) (i j:Nat):ByteArray:=s.extract i j
def dD (s:ByteArray) (i:Nat):Except (Int×Int) (List Tk) :=
 if h:i<s.size then
  if s[i]=32\/s[i]=10 then dD s (i+1)
  else if dL s[i]then
   (have:i<endOf bV s (i+1):=by have:=(oH (p:=bV) (s:=s) (i:=i+1) h).1;omega
    match dD s (endOf bV s (i+1))with
    | .ok r=>.ok (⟨1,dh s i (endOf bV s (i+1)),i⟩::r)
    | .error e=>.error e)
  else if aP s[i]then
   if endOf aP s (i+1)-i > 6\/(endOf aP s (i+1)-i > 1/\s[i]=48)then .error (i,3)
   else
    (have:i<endOf aP s (i+1):=by have:=(oH (p:=aP) (s:=s) (i:=i+1) h).1;omega
     match dD s (endOf aP s (i+1))with
     | .ok r=>.ok (⟨2,dh s i (endOf aP s (i+1)),i⟩::r)
     | .error e=>.error e)
  else if lI s[i]then
   (match dD s (i+1)with
    | .ok r=>.ok (⟨3,dh s i (i+1),i⟩::r)
    | .error e=>.error e)
  else .error (i,2)
 else .ok []
termination_by s.size-i
def iU (s:ByteArray):Except (Int×Int) (List Tk):=if s.size > 40000 then .error (0,1)else dD s 0
abbrev Rd:=List (Nd×Int)
def jB (s:ByteArray):Int:=s.data.toList.foldl (λn b=>10*n+((b.toNat:Int)-48)) 0
def bI (ts:List Tk) (b:UInt8):Bool:=match ts with
 | t::_=>decide (t.kind=3)&&decide (t.text=⟨#[b]⟩)
 | []=>false
structure pJ where
 bad:Bool
 rest:List Tk
 out:Rd
def jI (w:ByteArray):Nd:=⟨bg w,0,if bg w=17 then w else⟨#[]⟩⟩
mutual
def bQ (f:Nat) (ts:List Tk) (out:Rd):pJ:=match f with
 | 0=>⟨true,ts,out⟩
 | f+1 =>
  if bI ts 40 then
   (match fQ f ts.tail out with
    |⟨true,r,o⟩=>⟨true,r,o⟩
    |⟨false,r,o⟩=>if bI r 41 then⟨false,r.tail,o⟩else⟨true,r,o⟩)
  else match ts with
   | []=>⟨true,[],out⟩
   | t::r =>
    if t.kind=1 then
     (if bg t.text=1\/bg t.text=7\/bg t.text=13 then
      (match r with
       | []=>⟨true,[],out⟩
       | n::r'=>if n.kind=2 then⟨false,r',out++[(⟨bg t.text,jB n.text,⟨#[]⟩⟩,t.pos)]⟩else⟨true,r,out⟩)
     else⟨false,r,out++[(jI t.text,t.pos)]⟩)
    else⟨true,ts,out⟩
 termination_by (f,0)
def fU (f:Nat) (ts:List Tk) (out:Rd):pJ:=match bQ f ts out with
 |⟨true,r,o⟩=>⟨true,r,o⟩
 |⟨false,r,o⟩=>jl f r o
 termination_by (f,2)
def jl (f:Nat) (ts:List Tk) (out:Rd):pJ:=match f with
 | 0=>⟨bI ts 42,ts,out⟩
 | f+1 =>
  if bI ts 42 then
   (match bQ f ts.tail out with
    |⟨true,r,o⟩=>⟨true,r,o⟩
    |⟨false,r,o⟩=>jl f r (o++[(⟨16,0,⟨#[]⟩⟩,((ts.head?.map (·.pos)).getD 0))]))
  else⟨false,ts,out⟩
 termination_by (f,1)
def fQ (f:Nat) (ts:List Tk) (out:Rd):pJ:=match fU f ts out with
 |⟨true,r,o⟩=>⟨true,r,o⟩
 |⟨false,r,o⟩=>jm f r o
 termination_by (f,5)
def jm (f:Nat) (ts:List Tk) (out:Rd):pJ:=match f with
 | 0=>⟨bI ts 59,ts,out⟩
 | f+1 =>
  if bI ts 59 then
   (match fU f ts.tail out with
    |⟨true,r,o⟩=>⟨true,r,o⟩
    |⟨false,r,o⟩=>jm f r (o++[(⟨15,0,⟨#[]⟩⟩,((ts.head?.map (·.pos)).getD 0))]))
  else⟨false,ts,out⟩
 termination_by (f,4)
end
def II (t:Tk):List Value:=[.int .i64 t.kind,.string t.text,.int .i64 t.pos]
theorem aaC (t:Tk):(II t).length=3:=rfl
theorem TQ:(Tryz.prog.info? 171).map (λi=>(i.zero,i.size,i.bytes))=some (some (.agg #[.int .i64 0,.string ⟨#[]⟩,.int .i64 0]),3,32):=by kernel_rfl
def vg (w:World) (B:Nat) (v:Value) (ts:List Tk):Prop:=w.ownsRow B 171 3 v ts.length (ts.flatMap II)
def glue (acc:List Tk):Except (Int×Int) (List Tk)->Except (Int×Int) (List Tk)
 | .ok r=>.ok (acc++r)
 | .error e=>.error e
theorem MQ (x:Except (Int×Int) (List Tk)):glue [] x=x:=by cases x<;>simp[glue]
section
variable {s:ByteArray} {k:Nat}
theorem MR (h:s.size<=k):dD s k=.ok []:=by rw[dD,dif_neg (by omega)]
theorem MS (h:k<s.size) (hb:s[k]=32\/s[k]=10):dD s k=dD s (k+1):=by
 conv=>lhs;rw[dD]
 rw[dif_pos h,if_pos hb]
theorem EU (h:k<s.size) (hb:¬(s[k]=32\/s[k]=10)) (hl:dL s[k]=true) (acc:List Tk):glue acc (dD s k)=glue (acc++[⟨1,dh s k (endOf bV s (k+1)),k⟩]) (dD s (endOf bV s (k+1))):=by
 conv=>lhs;rw[dD]
 rw[dif_pos h,if_neg hb,if_pos hl];cases dD s (endOf bV s (k+1))<;>simp[glue]
theorem EW (h:k<s.size) (hb:¬(s[k]=32\/s[k]=10)) (hl:dL s[k]=false) (hd:aP s[k]=true) (hg:¬(endOf aP s (k+1)-k > 6\/(endOf aP s (k+1)-k > 1/\s[k]=48))) (acc:List Tk) :
  glue acc (dD s k)=glue (acc++[⟨2,dh s k (endOf aP s (k+1)),k⟩]) (dD s (endOf aP s (k+1))):=by
 conv=>lhs;rw[dD]
 rw[dif_pos h,if_neg hb,if_neg (by simp[hl]),if_pos hd,if_neg hg];cases dD s (endOf aP s (k+1))<;>simp[glue]
theorem zW (h:k<s.size) (hb:¬(s[k]=32\/s[k]=10)) (hl:dL s[k]=false) (hd:aP s[k]=true) (hg:endOf aP s (k+1)-k > 6\/(endOf aP s (k+1)-k > 1/\s[k]=48)):dD s k=.error (k,3):=by
 rw[dD,dif_pos h,if_neg hb,if_neg (by simp[hl]),if_pos hd,if_pos hg]
theorem MV (h:k<s.size) (hb:¬(s[k]=32\/s[k]=10)) (hl:dL s[k]=false) (hd:aP s[k]=false) (hs:lI s[k]=true) (acc:List Tk) :
  glue acc (dD s k)=glue (acc++[⟨3,dh s k (k+1),k⟩]) (dD s (k+1)):=by
 conv=>lhs;rw[dD]
 rw[dif_pos h,if_neg hb,if_neg (by simp[hl]),if_neg (by simp[hd]),if_pos hs];cases dD s (k+1)<;>simp[glue]
theorem MW (h:k<s.size) (hb:¬(s[k]=32\/s[k]=10)) (hl:dL s[k]=false) (hd:aP s[k]=false) (hs:lI s[k]=false):dD s k=.error (k,2):=by
 rw[dD,dif_pos h,if_neg hb,if_neg (by simp[hl]),if_neg (by simp[hd]),if_neg (by simp[hs])]
end
def bD (p:Int×Int):Value:=.iface 161 (.agg #[.int .i64 p.1,.int .i64 p.2])
def aaD (r:Except (Int×Int) (List Tk)) (w:World) (e:Ending) (w':World):Prop :=
 match r with
 | .ok ts=>∃v,e=.returned (.tuple #[v,.nilIface])/\vg w' w.heap.size v ts/\Below w.heap.size w w'
 | .error p=>e=.returned (.tuple #[.slice none 0 0,bD p])/\Below w.heap.size w w'
def yC:ByteArray:=⟨#[59,42,40,41,61,58]⟩
theorem byte_back (b:UInt8):(b.toNat:Int).toNat.toUInt8=b:=by simp
theorem TR {b:UInt8} (h:lI b=true):0<=Lib.indexByte yC.data.toList b/\Lib.indexByte yC.data.toList b<=5:=by
 simp only[lI,Bool.or_eq_true,beq_iff_eq]at h;rcases h with((((h|h)|h)|h)|h)|h<;>subst h<;>decide
theorem aaE {b:UInt8} (h:lI b=false):Lib.indexByte yC.data.toList b=-1:=by
 simp only[lI,Bool.or_eq_false_iff,beq_eq_false_iff_ne,ne_eq]at h;obtain⟨⟨⟨⟨⟨h1,h2⟩,h3⟩,h4⟩,h5⟩,h6⟩:=h;have e:yC.data.toList=[59,42,40,41,61,58]:=rfl;have f:∀c:UInt8,¬b=c->(c==b)=false:=λc hc=>by simpa using λe=>hc e.symm
 rw[e];simp only[Lib.indexByte,f _ h1,f _ h2,f _ h3,f _ h4,f _ h5,f _ h6];rfl
theorem aaF (b:UInt8) (w:World) (h:lI b=true):Calls Tryz.prog 151 #[.string yC,.int .u8 (b.toNat:Int)] w λe w'=>∃n:Int,e=.returned (.int .i64 n)/\0<=n/\n<=5/\w=w' :=
 (Tryz.strings_IndexByte yC (b.toNat:Int) w).mono λe w' ⟨h1,h2⟩=>⟨_,h1,by rw[byte_back];exact(TR h).1,by rw[byte_back];exact(TR h).2,h2.symm⟩
theorem aaG (b:UInt8) (w:World) (h:lI b=false):Calls Tryz.prog 151 #[.string yC,.int .u8 (b.toNat:Int)] w λe w'=>e=.returned (.int .i64 (-1))/\w=w' :=
 (Tryz.strings_IndexByte yC (b.toNat:Int) w).mono λe w' ⟨h1,h2⟩=>⟨by rw[h1,byte_back,aaE h],h2.symm⟩
theorem lJ (b:UInt8) (m:Nat) (hm:m<256):((b.toNat:Int)==(m:Int))=decide (b=UInt8.ofNat m):=by
 rw[Bool.eq_iff_iff];simp only[beq_iff_eq,decide_eq_true_eq];constructor
 ·intro h;have:b.toNat=m:=by omega
  rw[<-this];simp
 ·intro h;subst h;rw[UInt8.toNat_ofNat_of_lt' (by simpa using hm)]
theorem vk {w w2:World} {acc:List Tk} {v:Value} (x:Tk) (h:w2.ownsRow w.heap.size 171 3 v (acc.length+1) (acc.flatMap II++[.int .i64 x.kind,.string x.text,.int .i64 x.pos])):vg w2 w.heap.size v (acc++[x]):=by
 unfold vg;rw[List.length_append,List.flatMap_append];exact h
theorem aaH (s:ByteArray) (w:World) (hs:s.size<=4194304) :
  Calls Tryz.prog 91 #[.string s] w (aaD (iU s) w):=by
 by_cases h4:s.size<=40000
 ·have g4:¬(40000:Int)<s.size:=by omega
  rw[show iU s=dD s 0 by unfold iU;rw[if_neg (by omega)]];obtain⟨R,hR⟩:∃R,dD s 0=R:=⟨_,rfl⟩
  rw[hR];have HR:=Lib.hid hR;clear hR;obtain⟨i0,hi,hz0,hz1,hz2⟩:=info_parts TQ;go_enter Tryz.func91,Tryz.ntmps91;go_wp2;go_loopw [4,5] (λv i wr=>∃(k:Nat) (acc:List Tk),k<=s.size/\i=.int .i64 k/\vg wr w.heap.size v acc/\Hid (R=glue acc (dD s k))/\Below w.heap.size w wr/\acc.length<=k) (λ_ i _=>s.size-(intOf i).toNat)
  case atStart =>
   refine⟨0,[],Nat.zero_le _,rfl,?_,(by rw[MQ];exact HR.out.symm:Hid (R=glue [] (dD s 0))),aj _ _,Nat.le_refl _⟩
   have:=World.ownsRow_lit (base:=w.heap.size) (size:=3) (e:=171) w #[] 0 (Nat.le_refl _) (by unfold maxLen;omega) rfl
   simpa[vg]using this
  case round =>
   obtain⟨k,acc,hk,rfl,hown,HG,hbel,hal⟩:=hrel
   have hsz:=hbel.size
   obtain⟨ao,cp,rfl⟩:=jc hown
   by_cases hlt:k<s.size
   ·by_cases hbl:s[k]=32\/s[k]=10
    ·have HS:=Lib.hid (HG.out.trans (by rw[MS hlt hbl]:glue acc (dD s k)=glue acc (dD s (k+1))))
     have hbb:((s[k].toNat:Int)==32)=true\/(((s[k].toNat:Int)==32)=false/\((s[k].toNat:Int)==10)=true):=by
      by_cases e:s[k]=32
      ·exact .inl (by rw[e];rfl)
      ·refine .inr ⟨by show((s[k].toNat:Int)==((32:Nat):Int))=false;rw[lJ _ 32 (by omega)];simpa using e,?_⟩;have e2:=hbl.resolve_left e;rw[e2];rfl
     clear hbl HG
     rcases hbb with hb1|⟨hb1,hb2⟩
     all_goals
      go_wp2
      go_roundw
      case rel=>exact⟨k+1,acc,by omega,by go_num,hown,HS,hbel,by omega⟩
      case measure=>simp[intOf];omega
    ·have hb1:((s[k].toNat:Int)==32)=false:=by show((s[k].toNat:Int)==((32:Nat):Int))=false;rw[lJ _ 32 (by omega)];simpa using λe=>hbl (.inl e)
     have hb2:((s[k].toNat:Int)==10)=false:=by show((s[k].toNat:Int)==((10:Nat):Int))=false;rw[lJ _ 10 (by omega)];simpa using λe=>hbl (.inr e)
     cases hl:dL s[k]
     ·cases hd:aP s[k]
      ·cases hy:lI s[k]
       ·have hbad:=MW hlt hbl hl hd hy
        have HE:Hid (R=.error (k,2)):=(show _=_ by rw[HG.out,hbad];rfl)
        clear hbad hbl
        go_wp2_with (first|(go_at_call 146;refine(rO _ _).mono ?_;rintro e w1⟨rfl,rfl⟩)|(go_at_call 148;refine(qH _ _).mono ?_;rintro e w1⟨rfl,rfl⟩)|(go_at_call 151;refine(aaG _ _ hy).mono ?_;rintro e w1⟨rfl,rfl⟩))
        go_ret2
        rw[HE.out]
        exact⟨rfl,hbel⟩
       ·have HS:=Lib.hid (HG.out.trans (MV hlt hbl hl hd hy acc))
        clear hbl HG
        go_wp2_with (first|(go_at_call 146;refine(rO _ _).mono ?_;rintro e w1⟨rfl,rfl⟩)|(go_at_call 148;refine(qH _ _).mono ?_;rintro e w1⟨rfl,rfl⟩)|(go_at_call 151;refine(aaF _ _ hy).mono ?_;rintro e w1⟨n1,rfl,hn1,hn2,rfl⟩)|(at_builtin;refine wpList_append_own _ rfl _ _ 152 rfl w.heap.size 171 i0 _ 3 32 Tryz.underlying152 hi hz0 hz1 hz2 rfl (by decide) _ _ _ rfl (hown.alloc _) ⟨wr.heap.size,0,none⟩ 1 1 [.int .i64 3,.string (dh s k (k+1)),.int .i64 (k:Int)] rfl rfl ?c1 ?c2 ?c3 ?c4 ?c5 ?_))
        case c1 =>
         intro j u hj
         match j,hj with
         | 0,hj=>simp at hj;subst hj;simp[Addr.add]
         | 1,hj=>simp at hj;subst hj;simp[Addr.add,dh]
         | 2,hj=>simp at hj;subst hj;simp[Addr.add]
        case c2=>first|(intro u hu;simp at hu;rcases hu with rfl|rfl|rfl<;>rfl)|exact⟨rfl,rfl,rfl⟩
        case c3=>first|omega|(unfold maxLen;omega)
        case c4=>omega
        case c5=>first|omega|(simp;omega)
        intro v' w3 hown3 hgrow _
        have hb3:Below w.heap.size w w3:=(hbel.alloc (by omega) _).grown hgrow (by simp;omega) (λj hj=>(World.ownsRow.lt hown j hj).1)
        have hown4:=vk ⟨3,dh s k (k+1),k⟩ hown3
        clear hown3 hgrow hown
        go_wp2
        go_roundw
        case rel=>exact⟨k+1,_,by omega,by go_num,hown4,HS,hb3,by simp;omega⟩
        case measure=>simp[intOf];omega
      ·have hend:=oH (p:=aP) (s:=s) (i:=k+1) (by omega)
       go_wp2_with (first|(go_at_call 146;refine(rO _ _).mono ?_;rintro e w1⟨rfl,rfl⟩)|(go_at_call 148;refine(qH _ _).mono ?_;rintro e w1⟨rfl,rfl⟩))
       go_loop [5] (λi=>∃j:Nat,k<=j/\j<=s.size/\i=.int .i64 j/\Hid (endOf aP s (k+1)=endOf aP s j)) (λi=>s.size-(intOf i).toNat)
       case atStart=>exact⟨k,Nat.le_refl _,by omega,rfl,(show _=_ from(wQ hlt hd).symm)⟩
       case round =>
        obtain⟨j,hkj,hjs,rfl,HJ⟩:=hrel
        by_cases hjl:j<s.size
        ·cases hdj:aP s[j]
         ·have hje:endOf aP s (k+1)=j:=by rw[HJ.out,ES hjl hdj]
          rw[hje]at hend
          by_cases h6:j-k > 6
          ·have q1:(6:Int)<(j:Int)-k:=by omega
           have HE:Hid (R=.error (k,3)):=(show _=_ by rw[HG.out,zW hlt hbl hl hd (by rw[hje];exact .inl h6)];rfl)
           clear HG hbl HJ hje
           go_wp2_with (go_at_call 148;refine(qH _ _).mono ?_;rintro e w1⟨rfl,rfl⟩)
           go_ret2
           rw[HE.out]
           exact⟨rfl,hbel⟩
          ·have q1:¬(6:Int)<(j:Int)-k:=by omega
           by_cases h7:j-k > 1/\s[k]=48
           ·have q2:(1:Int)<(j:Int)-k:=by omega
            have q3:((s[k].toNat:Int)==48)=true:=by rw[h7.2];rfl
            have HE:Hid (R=.error (k,3)):=(show _=_ by rw[HG.out,zW hlt hbl hl hd (by rw[hje];exact .inr h7)];rfl)
            clear HG hbl HJ hje
            go_wp2_with (go_at_call 148;refine(qH _ _).mono ?_;rintro e w1⟨rfl,rfl⟩)
            go_ret2
            rw[HE.out]
            exact⟨rfl,hbel⟩
           ·have HS:=Lib.hid (HG.out.trans (EW hlt hbl hl hd (by rw[hje];exact λhh=>hh.elim h6 h7) acc))
            rw[hje]at HS
            have q23:¬(1:Int)<(j:Int)-k\/((1:Int)<(j:Int)-k/\((s[k].toNat:Int)==48)=false):=by
             by_cases q:j-k > 1
             ·exact .inr ⟨by omega,by show((s[k].toNat:Int)==((48:Nat):Int))=false;rw[lJ _ 48 (by omega)];simpa using λe=>h7 ⟨q,e⟩⟩
             ·exact .inl (by omega)
            clear HG hbl HJ hje h6 h7
            rcases q23 with q2|⟨q2,q3⟩
            all_goals
             go_wp2_with (first|(go_at_call 148;refine(qH _ _).mono ?_;rintro e w1⟨rfl,rfl⟩)|(at_builtin;refine wpList_append_own _ rfl _ _ 152 rfl w.heap.size 171 i0 _ 3 32 Tryz.underlying152 hi hz0 hz1 hz2 rfl (by decide) _ _ _ rfl (hown.alloc _) ⟨wr.heap.size,0,none⟩ 1 1 [.int .i64 2,.string (dh s k j),.int .i64 (k:Int)] rfl rfl ?c1 ?c2 ?c3 ?c4 ?c5 ?_))
             case c1 =>
              intro i u hj
              match i,hj with
              | 0,hj=>simp at hj;subst hj;simp[Addr.add]
              | 1,hj=>simp at hj;subst hj;simp[Addr.add,dh]
              | 2,hj=>simp at hj;subst hj;simp[Addr.add]
             case c2=>first|(intro u hu;simp at hu;rcases hu with rfl|rfl|rfl<;>rfl)|exact⟨rfl,rfl,rfl⟩
             case c3=>first|omega|(unfold maxLen;omega)
             case c4=>omega
             case c5=>first|omega|(simp;omega)
             intro v' w3 hown3 hgrow _
             have hb3:Below w.heap.size w w3:=(hbel.alloc (by omega) _).grown hgrow (by simp;omega) (λj hj=>(World.ownsRow.lt hown j hj).1)
             have hown4:=vk ⟨2,dh s k j,k⟩ hown3
             clear hown3 hgrow hown
             go_wp2
             go_roundw
             case rel=>exact⟨j,_,by omega,by go_num,hown4,HS,hb3,by simp;omega⟩
             case measure=>simp[intOf];omega
         ·have HJ2:=Lib.hid (HJ.out.trans (wQ hjl hdj))
          clear HJ hend
          go_wp2_with (go_at_call 148;refine(qH _ _).mono ?_;rintro e w1⟨rfl,rfl⟩)
          go_round
          case rel=>exact⟨j+1,by omega,by omega,by go_num,HJ2⟩
          case measure=>simp[intOf];omega
        ·have hje:endOf aP s (k+1)=j:=by rw[HJ.out,IG (by omega)]
         rw[hje]at hend
         by_cases h6:j-k > 6
         ·have q1:(6:Int)<(j:Int)-k:=by omega
          have HE:Hid (R=.error (k,3)):=(show _=_ by rw[HG.out,zW hlt hbl hl hd (by rw[hje];exact .inl h6)];rfl)
          clear HG hbl HJ hje
          go_wp2
          go_ret2
          rw[HE.out]
          exact⟨rfl,hbel⟩
         ·have q1:¬(6:Int)<(j:Int)-k:=by omega
          by_cases h7:j-k > 1/\s[k]=48
          ·have q2:(1:Int)<(j:Int)-k:=by omega
           have q3:((s[k].toNat:Int)==48)=true:=by rw[h7.2];rfl
           have HE:Hid (R=.error (k,3)):=(show _=_ by rw[HG.out,zW hlt hbl hl hd (by rw[hje];exact .inr h7)];rfl)
           clear HG hbl HJ hje
           go_wp2
           go_ret2
           rw[HE.out]
           exact⟨rfl,hbel⟩
          ·have HS:=Lib.hid (HG.out.trans (EW hlt hbl hl hd (by rw[hje];exact λhh=>hh.elim h6 h7) acc))
           rw[hje]at HS
           have q23:¬(1:Int)<(j:Int)-k\/((1:Int)<(j:Int)-k/\((s[k].toNat:Int)==48)=false):=by
            by_cases q:j-k > 1
            ·exact .inr ⟨by omega,by show((s[k].toNat:Int)==((48:Nat):Int))=false;rw[lJ _ 48 (by omega)];simpa using λe=>h7 ⟨q,e⟩⟩
            ·exact .inl (by omega)
           clear HG hbl HJ hje h6 h7
           rcases q23 with q2|⟨q2,q3⟩
           all_goals
            go_wp2_with (first|(go_at_call 148;refine(qH _ _).mono ?_;rintro e w1⟨rfl,rfl⟩)|(at_builtin;refine wpList_append_own _ rfl _ _ 152 rfl w.heap.size 171 i0 _ 3 32 Tryz.underlying152 hi hz0 hz1 hz2 rfl (by decide) _ _ _ rfl (hown.alloc _) ⟨wr.heap.size,0,none⟩ 1 1 [.int .i64 2,.string (dh s k j),.int .i64 (k:Int)] rfl rfl ?c1 ?c2 ?c3 ?c4 ?c5 ?_))
            case c1 =>
             intro i u hj
             match i,hj with
             | 0,hj=>simp at hj;subst hj;simp[Addr.add]
             | 1,hj=>simp at hj;subst hj;simp[Addr.add,dh]
             | 2,hj=>simp at hj;subst hj;simp[Addr.add]
            case c2=>first|(intro u hu;simp at hu;rcases hu with rfl|rfl|rfl<;>rfl)|exact⟨rfl,rfl,rfl⟩
            case c3=>first|omega|(unfold maxLen;omega)
            case c4=>omega
            case c5=>first|omega|(simp;omega)
            intro v' w3 hown3 hgrow _
            have hb3:Below w.heap.size w w3:=(hbel.alloc (by omega) _).grown hgrow (by simp;omega) (λj hj=>(World.ownsRow.lt hown j hj).1)
            have hown4:=vk ⟨2,dh s k j,k⟩ hown3
            clear hown3 hgrow hown
            go_wp2
            go_roundw
            case rel=>exact⟨j,_,by omega,by go_num,hown4,HS,hb3,by simp;omega⟩
            case measure=>simp[intOf];omega
     ·have hend:=oH (p:=bV) (s:=s) (i:=k+1) (by omega)
      have hlk:bV s[k]=true:=by simp[bV,hl]
      go_wp2_with (go_at_call 146;refine(rO _ _).mono ?_;rintro e w1⟨rfl,rfl⟩)
      go_loop [5] (λi=>∃j:Nat,k<=j/\j<=s.size/\i=.int .i64 j/\Hid (endOf bV s (k+1)=endOf bV s j)) (λi=>s.size-(intOf i).toNat)
      case atStart=>exact⟨k,Nat.le_refl _,by omega,rfl,(show _=_ from(wQ hlt hlk).symm)⟩
      case round =>
       obtain⟨j,hkj,hjs,rfl,HJ⟩:=hrel
       clear hlk
       by_cases hjl:j<s.size
       ·cases hlj:dL s[j]
        ·cases hdj:aP s[j]
         ·have hje:endOf bV s (k+1)=j:=by rw[HJ.out,ES hjl (by simp[bV,hlj,hdj])]
          rw[hje]at hend
          have HS:=Lib.hid (HG.out.trans (EU hlt hbl hl acc))
          rw[hje]at HS
          clear HG hbl HJ hje
          go_wp2_with (first|(go_at_call 146;refine(rO _ _).mono ?_;rintro e w1⟨rfl,rfl⟩)|(go_at_call 148;refine(qH _ _).mono ?_;rintro e w1⟨rfl,rfl⟩)|(at_builtin;refine wpList_append_own _ rfl _ _ 152 rfl w.heap.size 171 i0 _ 3 32 Tryz.underlying152 hi hz0 hz1 hz2 rfl (by decide) _ _ _ rfl (hown.alloc _) ⟨wr.heap.size,0,none⟩ 1 1 [.int .i64 1,.string (dh s k j),.int .i64 (k:Int)] rfl rfl ?c1 ?c2 ?c3 ?c4 ?c5 ?_))
          case c1 =>
           intro i u hj
           match i,hj with
           | 0,hj=>simp at hj;subst hj;simp[Addr.add]
           | 1,hj=>simp at hj;subst hj;simp[Addr.add,dh]
           | 2,hj=>simp at hj;subst hj;simp[Addr.add]
          case c2=>first|(intro u hu;simp at hu;rcases hu with rfl|rfl|rfl<;>rfl)|exact⟨rfl,rfl,rfl⟩
          case c3=>first|omega|(unfold maxLen;omega)
          case c4=>omega
          case c5=>first|omega|(simp;omega)
          intro v' w3 hown3 hgrow _
          have hb3:Below w.heap.size w w3:=(hbel.alloc (by omega) _).grown hgrow (by simp;omega) (λj hj=>(World.ownsRow.lt hown j hj).1)
          have hown4:=vk ⟨1,dh s k j,k⟩ hown3
          clear hown3 hgrow hown
          go_wp2
          go_roundw
          case rel=>exact⟨j,_,by omega,by go_num,hown4,HS,hb3,by simp;omega⟩
          case measure=>simp[intOf];omega
         ·have HJ2:=Lib.hid (HJ.out.trans (wQ hjl (by simp[bV,hdj])))
          clear HJ hend
          go_wp2_with (first|(go_at_call 146;refine(rO _ _).mono ?_;rintro e w1⟨rfl,rfl⟩)|(go_at_call 148;refine(qH _ _).mono ?_;rintro e w1⟨rfl,rfl⟩))
          go_round
          case rel=>exact⟨j+1,by omega,by omega,by go_num,HJ2⟩
          case measure=>simp[intOf];omega
        ·have HJ2:=Lib.hid (HJ.out.trans (wQ hjl (by simp[bV,hlj])))
         clear HJ hend
         go_wp2_with (first|(go_at_call 146;refine(rO _ _).mono ?_;rintro e w1⟨rfl,rfl⟩)|(go_at_call 148;refine(qH _ _).mono ?_;rintro e w1⟨rfl,rfl⟩))
         go_round
         case rel=>exact⟨j+1,by omega,by omega,by go_num,HJ2⟩
         case measure=>simp[intOf];omega
       ·have hje:endOf bV s (k+1)=j:=by rw[HJ.out,IG (by omega)]
        rw[hje]at hend
        have HS:=Lib.hid (HG.out.trans (EU hlt hbl hl acc))
        rw[hje]at HS
        clear HG hbl HJ hje
        go_wp2_with (first|(go_at_call 146;refine(rO _ _).mono ?_;rintro e w1⟨rfl,rfl⟩)|(go_at_call 148;refine(qH _ _).mono ?_;rintro e w1⟨rfl,rfl⟩)|(at_builtin;refine wpList_append_own _ rfl _ _ 152 rfl w.heap.size 171 i0 _ 3 32 Tryz.underlying152 hi hz0 hz1 hz2 rfl (by decide) _ _ _ rfl (hown.alloc _) ⟨wr.heap.size,0,none⟩ 1 1 [.int .i64 1,.string (dh s k j),.int .i64 (k:Int)] rfl rfl ?c1 ?c2 ?c3 ?c4 ?c5 ?_))
        case c1 =>
         intro i u hj
         match i,hj with
         | 0,hj=>simp at hj;subst hj;simp[Addr.add]
         | 1,hj=>simp at hj;subst hj;simp[Addr.add,dh]
         | 2,hj=>simp at hj;subst hj;simp[Addr.add]
        case c2=>first|(intro u hu;simp at hu;rcases hu with rfl|rfl|rfl<;>rfl)|exact⟨rfl,rfl,rfl⟩
        case c3=>first|omega|(unfold maxLen;omega)
        case c4=>omega
        case c5=>first|omega|(simp;omega)
        intro v' w3 hown3 hgrow _
        have hb3:Below w.heap.size w w3:=(hbel.alloc (by omega) _).grown hgrow (by simp;omega) (λj hj=>(World.ownsRow.lt hown j hj).1)
        have hown4:=vk ⟨1,dh s k j,k⟩ hown3
        clear hown3 hgrow hown
        go_wp2
        go_roundw
        case rel=>exact⟨j,_,by omega,by go_num,hown4,HS,hb3,by simp;omega⟩
        case measure=>simp[intOf];omega
   ·have hks:k=s.size:=by omega
    have HE:Hid (R=.ok acc):=(show _=_ by rw[HG.out,MR (by omega)];simp[glue])
    clear HG
    go_wp2
    go_ret2
    rw[HE.out]
    exact⟨_,rfl,hown,hbel⟩
 ·have g4:(40000:Int)<s.size:=by omega
  rw[show iU s=.error (0,1)by unfold iU;rw[if_pos (by omega)]];go_enter Tryz.func91,Tryz.ntmps91;go_wp2;go_ret2
  exact⟨rfl,Below.refl _ _⟩
theorem tC (b:UInt8) (w:World) :
  Calls Tryz.prog 163 #[.int .u8 b.toNat] w λe w'=>e=.returned (.bool (dL b))/\w=w':=by
 go_enter Tryz.func163,Tryz.ntmps163;go_wp2;all_goals go_ret
 all_goals exact⟨dI (by first|(simp_all [dL];done)|(simp_all [dL];omega)),rfl⟩
theorem tH (b:UInt8) (w:World) :
  Calls Tryz.prog 164 #[.int .u8 b.toNat] w λe w'=>e=.returned (.bool (aP b))/\w=w':=by
 go_enter Tryz.func164,Tryz.ntmps164;go_wp2;all_goals go_ret
 all_goals exact⟨dI (by first|(simp_all [aP];done)|(simp_all [aP];omega)),rfl⟩
def tJ:List UInt8->Int->Int
 | [],n=>n
 | b::r,n=>tJ r (10*n+((b.toNat:Int)-48))
theorem IJ (l:List UInt8) (n:Int):l.foldl (λn b=>10*n+((b.toNat:Int)-48)) n=tJ l n:=by
 induction l generalizing n with
 | nil=>rfl
 | cons b r ih=>simp only[List.foldl_cons,tJ];exact ih _
def zX (s:ByteArray):Prop:=∀i (h:i<s.size),aP s[i]=true
def IK (s:ByteArray):Bool:=decide (s.size<=6)&&!(decide (1<s.size)&&decide ((s.data.toList.headD 0)=48))
def rP (s:ByteArray):Int:=if IK s then jB s else -1
theorem aaI (s:ByteArray) (k:Nat) (h:k<s.size) (n:Int):tJ (s.data.toList.drop k) n=tJ (s.data.toList.drop (k+1)) (10*n+((s[k].toNat:Int)-48)):=by
 rw[List.drop_eq_getElem_cons (by simpa using h)];rfl
theorem aaJ (s:ByteArray) (n:Int):tJ (s.data.toList.drop s.size) n=n:=by
 rw[List.drop_eq_nil_of_le (by simp)];rfl
theorem TS (s:ByteArray) (h:0<s.size):s.data.toList.headD 0=s[0]:=by
 have h2:s.data.toList=s[0]::s.data.toList.drop 1:=List.drop_eq_getElem_cons (l:=s.data.toList) (i:=0) (by simpa using h);rw[h2];rfl
theorem TT {s:ByteArray} (h0:0<s.size) (h:s[0]=48) (h1:1<s.size):rP s=-1:=by
 unfold rP IK;rw[TS s h0,if_neg];simp[h,h1]
theorem TU {s:ByteArray} (h:¬s.size<=6):rP s=-1:=by
 unfold rP IK;rw[if_neg];simp;omega
theorem TV {s:ByteArray} (h0:0<s.size) (h6:s.size<=6) (h:¬(s[0]=48/\1<s.size)):rP s=tJ (s.data.toList.drop 0) 0:=by
 unfold rP IK;rw[TS s h0,if_pos]
 ·rw[jB,IJ];rfl
 ·simp only[Bool.and_eq_true,decide_eq_true_eq,Bool.not_eq_true',Bool.and_eq_false_iff,decide_eq_false_iff_not];refine⟨h6,?_⟩;by_cases hh:1<s.size
  ·exact .inr λe=>h ⟨e,hh⟩
  ·exact .inl hh
theorem EX (s:ByteArray) (w:World) (h1:1<=s.size) (hs:s.size<=4194304) (hd:zX s) :
  Calls Tryz.prog 165 #[.string s] w λe w'=>e=.returned (.int .i64 (rP s))/\w=w':=by
 have h0:0<s.size:=by omega
 by_cases h6:s.size<=6
 ·have g1:inB s.size 1 6=true:=by simp[inB];omega
  by_cases hz:s[0]=48/\1<s.size
  ·have q1:((s[0].toNat:Int)==48)=true:=by rw[hz.1];rfl
   have q2:(1:Int)<s.size:=by omega
   have HR:=Lib.hid (TT h0 hz.1 hz.2);clear hz;go_enter Tryz.func165,Tryz.ntmps165;go_wp2_with (go_at_call 143;refine(qI _ _ _ _).mono ?_;rintro e w1⟨rfl,rfl⟩)
   go_ret
   exact⟨by rw[HR.out];rfl,rfl⟩
  ·have HR:=Lib.hid (TV h0 h6 hz);have hzz:((s[0].toNat:Int)==48)=false\/(((s[0].toNat:Int)==48)=true/\¬(1:Int)<s.size):=by
    by_cases e:s[0]=48
    ·exact .inr ⟨by rw[e];rfl,λhh=>hz ⟨e,by omega⟩⟩
    ·exact .inl (by show((s[0].toNat:Int)==((48:Nat):Int))=false;rw[lJ _ 48 (by omega)];simpa using e)
   clear hz;rcases hzz with q1|⟨q1,q2⟩
   all_goals
    go_enter Tryz.func165,Tryz.ntmps165
    go_wp2_with (go_at_call 143;refine(qI _ _ _ _).mono ?_;rintro e w1⟨rfl,rfl⟩)
    go_loop [3,4] (λnv i=>∃(k:Nat) (n:Int),k<=s.size/\i=.int .i64 k/\nv=.int .i64 n/\0<=n/\n+1<=10 ^ k/\Hid (rP s=tJ (s.data.toList.drop k) n)) (λ_ i=>s.size-(intOf i).toNat)
    case atStart=>exact⟨0,0,Nat.zero_le _,rfl,rfl,by omega,by decide,HR⟩
    case round =>
     obtain⟨k,n,hk,rfl,rfl,hn0,hn1,HC⟩:=hrel
     by_cases hlt:k<s.size
     ·have HS:=Lib.hid (HC.out.trans (aaI s k hlt n))
      have hdk:=hd k hlt
      simp only[aP,Bool.and_eq_true,decide_eq_true_eq]at hdk
      obtain⟨d1,d2⟩:=hdk
      have hn2:n<=100000:=by
       have:k<=5:=by omega
       match k,this,hn1 with
       | 0,_,h=>simp at h;omega
       | 1,_,h=>simp at h;omega
       | 2,_,h=>simp at h;omega
       | 3,_,h=>simp at h;omega
       | 4,_,h=>simp at h;omega
       | 5,_,h=>simp at h;omega
      have hn3:=Lib.hid (show 10*n+((s[k].toNat:Int)-48)+1<=10 ^ (k+1)by rw[Int.pow_succ];omega)
      clear HC hn1
      go_wp2
      go_round
      case rel=>exact⟨k+1,_,by omega,by go_num,rfl,by omega,hn3.out,HS⟩
      case measure=>simp[intOf];omega
     ·obtain rfl:k=s.size:=by omega
      go_wp2
      go_ret
      exact⟨wO (by rw[HC.out,aaJ]),rfl⟩
 ·have g1:inB s.size 1 6=false:=by simp[inB];omega
  have HR:=Lib.hid (TU h6);go_enter Tryz.func165,Tryz.ntmps165;go_wp2_with (go_at_call 143;refine(qI _ _ _ _).mono ?_;rintro e w1⟨rfl,rfl⟩)
  go_ret
  exact⟨by rw[HR.out];rfl,rfl⟩
theorem wR {s:ByteArray} {k j:Nat} (h1:k<=j) (h2:j<=s.size):(dh s k j).size=j-k:=by
 unfold dh;simp[ByteArray.size_extract];omega
theorem MX {s:ByteArray} {k j i:Nat} (h1:k<=j) (h2:j<=s.size) (hi:i<(dh s k j).size):(dh s k j)[i]=s[k+i]'(by rw[wR h1 h2]at hi;omega):=by
 exact ByteArray.getElem_extract (b:=s) (start:=k) (stop:=j) (i:=i) hi
theorem TW {p:UInt8->Bool} {s:ByteArray}:∀(n i:Nat),s.size-i=n->∀j (h:j<s.size),i<=j->j<endOf p s i->p s[j]=true
 | 0,i,hn,j,h,hij,hj=>by omega
 | n+1,i,hn,j,h,hij,hj=>by
  have hi:i<s.size:=by omega
  cases hp:p s[i]with
  | false=>rw[ES hi hp]at hj;omega
  | true =>
   by_cases e:i=j
   ·subst e;exact hp
   ·rw[wQ hi hp]at hj
    exact TW n (i+1) (by omega) j h (by omega) hj
theorem MZ {s:ByteArray} {k:Nat} (h:k<s.size) (hd:aP s[k]=true):zX (dh s k (endOf aP s (k+1))):=by
 have he:=oH (p:=aP) (s:=s) (i:=k+1) h;intro i hi;rw[MX (by omega) he.2];rw[wR (by omega) he.2]at hi;by_cases h0:i=0
 ·subst h0;simpa using hd
 ·exact TW _ (k+1) rfl (k+i) (by omega) (by omega) (by omega)
theorem TY:∀(l:List UInt8) (n:Int),0<=n->(∀b∈l,aP b=true)->0<=tJ l n
 | [],n,h,_=>h
 | b::r,n,h,hd=>by
  have hb:=hd b (List.mem_cons_self ..);simp only[aP,Bool.and_eq_true,decide_eq_true_eq]at hb;exact TY r _ (by omega) λx hx=>hd x (List.mem_cons_of_mem _ hx)
theorem T_ {s:ByteArray} (h:zX s):∀b∈s.data.toList,aP b=true:=by
 intro b hb;obtain⟨i,hi,rfl⟩:=List.mem_iff_getElem.1 hb;exact h i (by simpa using hi)
theorem Ua {s:ByteArray} (h:zX s):0<=jB s:=by
 unfold jB;rw[IJ];exact TY _ _ (by omega) (T_ h)
theorem Ub {s:ByteArray} {k:Nat} (h:k<s.size) (hd:aP s[k]=true) (hg:endOf aP s (k+1)-k > 6\/(endOf aP s (k+1)-k > 1/\s[k]=48)):rP (dh s k (endOf aP s (k+1)))=-1:=by
 have he:=oH (p:=aP) (s:=s) (i:=k+1) h;have hsz:=wR (s:=s) (k:=k) (j:=endOf aP s (k+1)) (by omega) he.2;by_cases h6:endOf aP s (k+1)-k > 6
 ·exact TU (by omega)
 ·obtain⟨h1,h2⟩:=hg.resolve_left h6;refine TT (by omega) ?_ (by omega);rw[MX (by omega) he.2];simpa using h2
theorem M_ {s:ByteArray} {k:Nat} (h:k<s.size) (hd:aP s[k]=true) (hg:¬(endOf aP s (k+1)-k > 6\/(endOf aP s (k+1)-k > 1/\s[k]=48))) :
  rP (dh s k (endOf aP s (k+1)))=jB (dh s k (endOf aP s (k+1))):=by
 have he:=oH (p:=aP) (s:=s) (i:=k+1) h;have hsz:=wR (s:=s) (k:=k) (j:=endOf aP s (k+1)) (by omega) he.2;rw[TV (by omega) (by omega),jB,IJ]
 ·rfl
 ·rintro⟨h1,h2⟩;rw[MX (by omega) he.2]at h1;exact hg (.inr ⟨by omega,by simpa using h1⟩)
def Na (b:UInt8):Prop:=((b.toNat:Int)==59)=true\/(((b.toNat:Int)==59)=false/\((b.toNat:Int)==42)=true)\/(((b.toNat:Int)==59)=false/\((b.toNat:Int)==42)=false/\((b.toNat:Int)==40)=true) \/
 (((b.toNat:Int)==59)=false/\((b.toNat:Int)==42)=false/\((b.toNat:Int)==40)=false/\((b.toNat:Int)==41)=true)\/(((b.toNat:Int)==59)=false/\((b.toNat:Int)==42)=false/\((b.toNat:Int)==40)=false/\((b.toNat:Int)==41)=false/\((b.toNat:Int)==61)=true) \/
 (((b.toNat:Int)==59)=false/\((b.toNat:Int)==42)=false/\((b.toNat:Int)==40)=false/\((b.toNat:Int)==41)=false/\((b.toNat:Int)==61)=false/\((b.toNat:Int)==58)=true)
theorem aaK {b:UInt8} (h:((((b=59\/b=42)\/b=40)\/b=41)\/b=61)\/b=58):Na b:=by
 rcases h with((((h|h)|h)|h)|h)|h<;>subst h<;>simp[Na]
def EY (r:Except (Int×Int) (List Tk)) (w:World) (e:Ending) (w':World):Prop :=
 match r with
 | .ok ts=>∃v,e=.returned (.tuple #[v,.int .i64 0,.int .i64 0])/\vg w' w.heap.size v ts/\Below w.heap.size w w'
 | .error p=>e=.returned (.tuple #[.slice none 0 0,.int .i64 p.1,.int .i64 p.2])/\Below w.heap.size w w'
theorem aaL (s:ByteArray) (w:World) (hs:s.size<=4194304) :
  Calls Tryz.prog 97 #[.string s] w (EY (iU s) w):=by
 by_cases h4:s.size<=40000
 ·have g4:¬(40000:Int)<s.size:=by omega
  rw[show iU s=dD s 0 by unfold iU;rw[if_neg (by omega)]];obtain⟨R,hR⟩:∃R,dD s 0=R:=⟨_,rfl⟩
  rw[hR];have HR:=Lib.hid hR;clear hR;obtain⟨i0,hi,hz0,hz1,hz2⟩:=info_parts TQ;go_enter Tryz.func97,Tryz.ntmps97;go_wp2;go_loopw [5,6] (λv i wr=>∃(k:Nat) (acc:List Tk),k<=s.size/\i=.int .i64 k/\vg wr w.heap.size v acc/\Hid (R=glue acc (dD s k))/\Below w.heap.size w wr/\acc.length<=k) (λ_ i _=>s.size-(intOf i).toNat)
  case atStart=>exact⟨0,[],Nat.zero_le _,rfl,⟨by simp,.inl ⟨rfl,rfl⟩⟩,(by rw[MQ];exact HR.out.symm:Hid (R=glue [] (dD s 0))),Below.refl _ _,Nat.le_refl _⟩
  case round =>
   obtain⟨k,acc,hk,rfl,hown,HG,hbel,hal⟩:=hrel
   have hsz:=hbel.size
   obtain⟨ao,cp,rfl⟩:=jc hown
   by_cases hlt:k<s.size
   ·by_cases hbl:s[k]=32\/s[k]=10
    ·have HS:=Lib.hid (HG.out.trans (by rw[MS hlt hbl]:glue acc (dD s k)=glue acc (dD s (k+1))))
     have hbb:((s[k].toNat:Int)==32)=true\/(((s[k].toNat:Int)==32)=false/\((s[k].toNat:Int)==10)=true):=by
      by_cases e:s[k]=32
      ·exact .inl (by rw[e];rfl)
      ·refine .inr ⟨by show((s[k].toNat:Int)==((32:Nat):Int))=false;rw[lJ _ 32 (by omega)];simpa using e,?_⟩;have e2:=hbl.resolve_left e;rw[e2];rfl
     clear hbl HG
     rcases hbb with hb1|⟨hb1,hb2⟩
     all_goals
      go_wp2
      go_roundw
      case rel=>exact⟨k+1,acc,by omega,by go_num,hown,HS,hbel,by omega⟩
      case measure=>simp[intOf];omega
    ·have hb1:((s[k].toNat:Int)==32)=false:=by show((s[k].toNat:Int)==((32:Nat):Int))=false;rw[lJ _ 32 (by omega)];simpa using λe=>hbl (.inl e)
     have hb2:((s[k].toNat:Int)==10)=false:=by show((s[k].toNat:Int)==((10:Nat):Int))=false;rw[lJ _ 10 (by omega)];simpa using λe=>hbl (.inr e)
     cases hy:lI s[k]
     ·have Uc:=hy
      simp only[lI,Bool.or_eq_false_iff,beq_eq_false_iff_ne,ne_eq]at Uc
      obtain⟨⟨⟨⟨⟨e59,e42⟩,e40⟩,e41⟩,e61⟩,e58⟩:=Uc
      have f59:((s[k].toNat:Int)==59)=false:=by show((s[k].toNat:Int)==((59:Nat):Int))=false;rw[lJ _ 59 (by omega)];simpa using e59
      have f42:((s[k].toNat:Int)==42)=false:=by show((s[k].toNat:Int)==((42:Nat):Int))=false;rw[lJ _ 42 (by omega)];simpa using e42
      have f40:((s[k].toNat:Int)==40)=false:=by show((s[k].toNat:Int)==((40:Nat):Int))=false;rw[lJ _ 40 (by omega)];simpa using e40
      have f41:((s[k].toNat:Int)==41)=false:=by show((s[k].toNat:Int)==((41:Nat):Int))=false;rw[lJ _ 41 (by omega)];simpa using e41
      have f61:((s[k].toNat:Int)==61)=false:=by show((s[k].toNat:Int)==((61:Nat):Int))=false;rw[lJ _ 61 (by omega)];simpa using e61
      have f58:((s[k].toNat:Int)==58)=false:=by show((s[k].toNat:Int)==((58:Nat):Int))=false;rw[lJ _ 58 (by omega)];simpa using e58
      clear e59 e42 e40 e41 e61 e58
      cases hl:dL s[k]
      ·cases hd:aP s[k]
       ·have hbad:=MW hlt hbl hl hd hy
        have HE:Hid (R=.error (k,2)):=(show _=_ by rw[HG.out,hbad];rfl)
        clear hbad hbl hy
        go_wp2_with (first|(go_at_call 163;refine(tC _ _).mono ?_;rintro e w1⟨rfl,rfl⟩)|(go_at_call 164;refine(tH _ _).mono ?_;rintro e w1⟨rfl,rfl⟩))
        go_ret3
        rw[HE.out]
        exact⟨rfl,hbel⟩
       ·have hend:=oH (p:=aP) (s:=s) (i:=k+1) (by omega)
        clear hy
        go_wp2_with (first|(go_at_call 163;refine(tC _ _).mono ?_;rintro e w1⟨rfl,rfl⟩)|(go_at_call 164;refine(tH _ _).mono ?_;rintro e w1⟨rfl,rfl⟩))
        go_loop [8] (λi=>∃j:Nat,k+1<=j/\j<=s.size/\i=.int .i64 j/\Hid (endOf aP s (k+1)=endOf aP s j)) (λi=>s.size-(intOf i).toNat)
        case atStart=>exact⟨k+1,Nat.le_refl _,by omega,by go_num,(rfl:Hid (endOf aP s (k+1)=_))⟩
        case round =>
         obtain⟨j,hkj,hjs,rfl,HJ⟩:=hrel
         by_cases hjl:j<s.size
         ·cases hdj:aP s[j]
          ·have hje:endOf aP s (k+1)=j:=by rw[HJ.out,ES hjl hdj]
           have hdc:=MZ hlt hd
           have hrn:=λhg=>Ub hlt hd hg
           have wS:=λhg=>M_ hlt hd hg
           have hTL:=λhg=>zW hlt hbl hl hd hg
           have nH:=λhg=>EW hlt hbl hl hd hg acc
           rw[hje]at hend hdc hrn wS hTL nH
           have hcs:=wR (s:=s) (k:=k) (j:=j) (by omega) (by omega)
           by_cases hg:j-k > 6\/(j-k > 1/\s[k]=48)
           ·have HE:Hid (R=.error (k,3)):=(show _=_ by rw[HG.out,hTL hg];rfl)
            have HV:=Lib.hid (hrn hg)
            clear HG hbl HJ hje hg hTL nH hrn wS
            go_wp2_with (first|(go_at_call 163;refine(tC _ _).mono ?_;rintro e w1⟨rfl,rfl⟩)|(go_at_call 164;refine(tH _ _).mono ?_;rintro e w1⟨rfl,rfl⟩)|(go_at_call 165;refine(EX (dh s k j) _ (by omega) (by omega) hdc).mono ?_;rintro e w1⟨rfl,rfl⟩;rw[HV.out]))
            go_ret3
            rw[HE.out]
            exact⟨rfl,hbel⟩
           ·have HS:=Lib.hid (HG.out.trans (nH hg))
            have HV:=Lib.hid (wS hg)
            have hnn:=Ua hdc
            clear HG hbl HJ hje hg hTL nH hrn wS
            go_wp2_with (first|(go_at_call 163;refine(tC _ _).mono ?_;rintro e w1⟨rfl,rfl⟩)|(go_at_call 164;refine(tH _ _).mono ?_;rintro e w1⟨rfl,rfl⟩)|(go_at_call 165;refine(EX (dh s k j) _ (by omega) (by omega) hdc).mono ?_;rintro e w1⟨rfl,rfl⟩;rw[HV.out])|(at_builtin;refine wpList_append_own _ rfl _ _ 152 rfl w.heap.size 171 i0 _ 3 32 Tryz.underlying152 hi hz0 hz1 hz2 rfl (by decide) _ _ _ rfl (hown.alloc _) ⟨wr.heap.size,0,none⟩ 1 1 [.int .i64 2,.string (dh s k j),.int .i64 (k:Int)] rfl rfl ?c1 ?c2 ?c3 ?c4 ?c5 ?_))
            case c1 =>
             intro i u hj
             match i,hj with
             | 0,hj=>simp at hj;subst hj;simp[Addr.add]
             | 1,hj=>simp at hj;subst hj;simp[Addr.add,dh]
             | 2,hj=>simp at hj;subst hj;simp[Addr.add]
            case c2=>first|(intro u hu;simp at hu;rcases hu with rfl|rfl|rfl<;>rfl)|exact⟨rfl,rfl,rfl⟩
            case c3=>first|omega|(unfold maxLen;omega)
            case c4=>omega
            case c5=>first|omega|(simp;omega)
            intro v' w3 hown3 hgrow _
            have hb3:Below w.heap.size w w3:=(hbel.alloc (by omega) _).grown hgrow (by simp;omega) (λj hj=>(World.ownsRow.lt hown j hj).1)
            have hown4:=vk ⟨2,dh s k j,k⟩ hown3
            clear hown3 hgrow hown
            go_wp2
            go_roundw
            case rel=>exact⟨j,_,by omega,by go_num,hown4,HS,hb3,by simp;omega⟩
            case measure=>simp[intOf];omega
          ·have HJ2:=Lib.hid (HJ.out.trans (wQ hjl hdj))
           clear HJ hend
           go_wp2_with (go_at_call 164;refine(tH _ _).mono ?_;rintro e w1⟨rfl,rfl⟩)
           go_round
           case rel=>exact⟨j+1,by omega,by omega,by go_num,HJ2⟩
           case measure=>simp[intOf];omega
         ·have hje:endOf aP s (k+1)=j:=by rw[HJ.out,IG (by omega)]
          have hdc:=MZ hlt hd
          have hrn:=λhg=>Ub hlt hd hg
          have wS:=λhg=>M_ hlt hd hg
          have hTL:=λhg=>zW hlt hbl hl hd hg
          have nH:=λhg=>EW hlt hbl hl hd hg acc
          rw[hje]at hend hdc hrn wS hTL nH
          have hcs:=wR (s:=s) (k:=k) (j:=j) (by omega) (by omega)
          by_cases hg:j-k > 6\/(j-k > 1/\s[k]=48)
          ·have HE:Hid (R=.error (k,3)):=(show _=_ by rw[HG.out,hTL hg];rfl)
           have HV:=Lib.hid (hrn hg)
           clear HG hbl HJ hje hg hTL nH hrn wS
           go_wp2_with (first|(go_at_call 163;refine(tC _ _).mono ?_;rintro e w1⟨rfl,rfl⟩)|(go_at_call 164;refine(tH _ _).mono ?_;rintro e w1⟨rfl,rfl⟩)|(go_at_call 165;refine(EX (dh s k j) _ (by omega) (by omega) hdc).mono ?_;rintro e w1⟨rfl,rfl⟩;rw[HV.out]))
           go_ret3
           rw[HE.out]
           exact⟨rfl,hbel⟩
          ·have HS:=Lib.hid (HG.out.trans (nH hg))
           have HV:=Lib.hid (wS hg)
           have hnn:=Ua hdc
           clear HG hbl HJ hje hg hTL nH hrn wS
           go_wp2_with (first|(go_at_call 163;refine(tC _ _).mono ?_;rintro e w1⟨rfl,rfl⟩)|(go_at_call 164;refine(tH _ _).mono ?_;rintro e w1⟨rfl,rfl⟩)|(go_at_call 165;refine(EX (dh s k j) _ (by omega) (by omega) hdc).mono ?_;rintro e w1⟨rfl,rfl⟩;rw[HV.out])|(at_builtin;refine wpList_append_own _ rfl _ _ 152 rfl w.heap.size 171 i0 _ 3 32 Tryz.underlying152 hi hz0 hz1 hz2 rfl (by decide) _ _ _ rfl (hown.alloc _) ⟨wr.heap.size,0,none⟩ 1 1 [.int .i64 2,.string (dh s k j),.int .i64 (k:Int)] rfl rfl ?c1 ?c2 ?c3 ?c4 ?c5 ?_))
           case c1 =>
            intro i u hj
            match i,hj with
            | 0,hj=>simp at hj;subst hj;simp[Addr.add]
            | 1,hj=>simp at hj;subst hj;simp[Addr.add,dh]
            | 2,hj=>simp at hj;subst hj;simp[Addr.add]
           case c2=>first|(intro u hu;simp at hu;rcases hu with rfl|rfl|rfl<;>rfl)|exact⟨rfl,rfl,rfl⟩
           case c3=>first|omega|(unfold maxLen;omega)
           case c4=>omega
           case c5=>first|omega|(simp;omega)
           intro v' w3 hown3 hgrow _
           have hb3:Below w.heap.size w w3:=(hbel.alloc (by omega) _).grown hgrow (by simp;omega) (λj hj=>(World.ownsRow.lt hown j hj).1)
           have hown4:=vk ⟨2,dh s k j,k⟩ hown3
           clear hown3 hgrow hown
           go_wp2
           go_roundw
           case rel=>exact⟨j,_,by omega,by go_num,hown4,HS,hb3,by simp;omega⟩
           case measure=>simp[intOf];omega
      ·have hend:=oH (p:=bV) (s:=s) (i:=k+1) (by omega)
       clear hy
       go_wp2_with (go_at_call 163;refine(tC _ _).mono ?_;rintro e w1⟨rfl,rfl⟩)
       go_loop [8] (λi=>∃j:Nat,k+1<=j/\j<=s.size/\i=.int .i64 j/\Hid (endOf bV s (k+1)=endOf bV s j)) (λi=>s.size-(intOf i).toNat)
       case atStart=>exact⟨k+1,Nat.le_refl _,by omega,by go_num,(rfl:Hid (endOf bV s (k+1)=_))⟩
       case round =>
        obtain⟨j,hkj,hjs,rfl,HJ⟩:=hrel
        by_cases hjl:j<s.size
        ·cases hlj:dL s[j]
         ·cases hdj:aP s[j]
          ·have hje:endOf bV s (k+1)=j:=by rw[HJ.out,ES hjl (by simp[bV,hlj,hdj])]
           rw[hje]at hend
           have HS:=Lib.hid (HG.out.trans (EU hlt hbl hl acc))
           rw[hje]at HS
           clear HG hbl HJ hje
           go_wp2_with (first|(go_at_call 163;refine(tC _ _).mono ?_;rintro e w1⟨rfl,rfl⟩)|(go_at_call 164;refine(tH _ _).mono ?_;rintro e w1⟨rfl,rfl⟩)|(at_builtin;refine wpList_append_own _ rfl _ _ 152 rfl w.heap.size 171 i0 _ 3 32 Tryz.underlying152 hi hz0 hz1 hz2 rfl (by decide) _ _ _ rfl (hown.alloc _) ⟨wr.heap.size,0,none⟩ 1 1 [.int .i64 1,.string (dh s k j),.int .i64 (k:Int)] rfl rfl ?c1 ?c2 ?c3 ?c4 ?c5 ?_))
           case c1 =>
            intro i u hj
            match i,hj with
            | 0,hj=>simp at hj;subst hj;simp[Addr.add]
            | 1,hj=>simp at hj;subst hj;simp[Addr.add,dh]
            | 2,hj=>simp at hj;subst hj;simp[Addr.add]
           case c2=>first|(intro u hu;simp at hu;rcases hu with rfl|rfl|rfl<;>rfl)|exact⟨rfl,rfl,rfl⟩
           case c3=>first|omega|(unfold maxLen;omega)
           case c4=>omega
           case c5=>first|omega|(simp;omega)
           intro v' w3 hown3 hgrow _
           have hb3:Below w.heap.size w w3:=(hbel.alloc (by omega) _).grown hgrow (by simp;omega) (λj hj=>(World.ownsRow.lt hown j hj).1)
           have hown4:=vk ⟨1,dh s k j,k⟩ hown3
           clear hown3 hgrow hown
           go_wp2
           go_roundw
           case rel=>exact⟨j,_,by omega,by go_num,hown4,HS,hb3,by simp;omega⟩
           case measure=>simp[intOf];omega
          ·have HJ2:=Lib.hid (HJ.out.trans (wQ hjl (by simp[bV,hdj])))
           clear HJ hend
           go_wp2_with (first|(go_at_call 163;refine(tC _ _).mono ?_;rintro e w1⟨rfl,rfl⟩)|(go_at_call 164;refine(tH _ _).mono ?_;rintro e w1⟨rfl,rfl⟩))
           go_round
           case rel=>exact⟨j+1,by omega,by omega,by go_num,HJ2⟩
           case measure=>simp[intOf];omega
         ·have HJ2:=Lib.hid (HJ.out.trans (wQ hjl (by simp[bV,hlj])))
          clear HJ hend
          go_wp2_with (first|(go_at_call 163;refine(tC _ _).mono ?_;rintro e w1⟨rfl,rfl⟩)|(go_at_call 164;refine(tH _ _).mono ?_;rintro e w1⟨rfl,rfl⟩))
          go_round
          case rel=>exact⟨j+1,by omega,by omega,by go_num,HJ2⟩
          case measure=>simp[intOf];omega
        ·have hje:endOf bV s (k+1)=j:=by rw[HJ.out,IG (by omega)]
         rw[hje]at hend
         have HS:=Lib.hid (HG.out.trans (EU hlt hbl hl acc))
         rw[hje]at HS
         clear HG hbl HJ hje
         go_wp2_with (first|(go_at_call 163;refine(tC _ _).mono ?_;rintro e w1⟨rfl,rfl⟩)|(go_at_call 164;refine(tH _ _).mono ?_;rintro e w1⟨rfl,rfl⟩)|(at_builtin;refine wpList_append_own _ rfl _ _ 152 rfl w.heap.size 171 i0 _ 3 32 Tryz.underlying152 hi hz0 hz1 hz2 rfl (by decide) _ _ _ rfl (hown.alloc _) ⟨wr.heap.size,0,none⟩ 1 1 [.int .i64 1,.string (dh s k j),.int .i64 (k:Int)] rfl rfl ?c1 ?c2 ?c3 ?c4 ?c5 ?_))
         case c1 =>
          intro i u hj
          match i,hj with
          | 0,hj=>simp at hj;subst hj;simp[Addr.add]
          | 1,hj=>simp at hj;subst hj;simp[Addr.add,dh]
          | 2,hj=>simp at hj;subst hj;simp[Addr.add]
         case c2=>first|(intro u hu;simp at hu;rcases hu with rfl|rfl|rfl<;>rfl)|exact⟨rfl,rfl,rfl⟩
         case c3=>first|omega|(unfold maxLen;omega)
         case c4=>omega
         case c5=>first|omega|(simp;omega)
         intro v' w3 hown3 hgrow _
         have hb3:Below w.heap.size w w3:=(hbel.alloc (by omega) _).grown hgrow (by simp;omega) (λj hj=>(World.ownsRow.lt hown j hj).1)
         have hown4:=vk ⟨1,dh s k j,k⟩ hown3
         clear hown3 hgrow hown
         go_wp2
         go_roundw
         case rel=>exact⟨j,_,by omega,by go_num,hown4,HS,hb3,by simp;omega⟩
         case measure=>simp[intOf];omega
     ·have hyl:=hy
      have hlo:dL s[k]=false/\aP s[k]=false:=by
       simp only[lI,Bool.or_eq_true,beq_iff_eq]at hyl;rcases hyl with((((h|h)|h)|h)|h)|h<;>rw[h]<;>decide
      have HS:=Lib.hid (HG.out.trans (MV hlt hbl hlo.1 hlo.2 hy acc))
      simp only[lI,Bool.or_eq_true,beq_iff_eq]at hyl
      have hcase:Na s[k]:=aaK hyl
      clear hbl HG hyl hlo hy
      rcases hcase with hc1|⟨hc1,hc2⟩|⟨hc1,hc2,hc3⟩|⟨hc1,hc2,hc3,hc4⟩|⟨hc1,hc2,hc3,hc4,hc5⟩|⟨hc1,hc2,hc3,hc4,hc5,hc6⟩
      all_goals
       go_wp2_with (at_builtin;refine wpList_append_own _ rfl _ _ 152 rfl w.heap.size 171 i0 _ 3 32 Tryz.underlying152 hi hz0 hz1 hz2 rfl (by decide) _ _ _ rfl (hown.alloc _) ⟨wr.heap.size,0,none⟩ 1 1 [.int .i64 3,.string (dh s k (k+1)),.int .i64 (k:Int)] rfl rfl ?c1 ?c2 ?c3 ?c4 ?c5 ?_)
       case c1 =>
        intro i u hj
        match i,hj with
        | 0,hj=>simp at hj;subst hj;simp[Addr.add]
        | 1,hj=>simp at hj;subst hj;simp[Addr.add,dh]
        | 2,hj=>simp at hj;subst hj;simp[Addr.add]
       case c2=>first|(intro u hu;simp at hu;rcases hu with rfl|rfl|rfl<;>rfl)|exact⟨rfl,rfl,rfl⟩
       case c3=>first|omega|(unfold maxLen;omega)
       case c4=>omega
       case c5=>first|omega|(simp;omega)
       intro v' w3 hown3 hgrow _
       have hb3:Below w.heap.size w w3:=(hbel.alloc (by omega) _).grown hgrow (by simp;omega) (λj hj=>(World.ownsRow.lt hown j hj).1)
       have hown4:=vk ⟨3,dh s k (k+1),k⟩ hown3
       clear hown3 hgrow hown
       go_wp2
       go_roundw
       case rel=>exact⟨(k+1),_,by omega,by go_num,hown4,HS,hb3,by simp;omega⟩
       case measure=>simp[intOf];omega
   ·have hks:k=s.size:=by omega
    have HE:Hid (R=.ok acc):=(show _=_ by rw[HG.out,MR (by omega)];simp[glue])
    clear HG
    go_wp2
    go_ret3
    rw[HE.out]
    exact⟨_,rfl,hown,hbel⟩
 ·have g4:(40000:Int)<s.size:=by omega
  rw[show iU s=.error (0,1)by unfold iU;rw[if_pos (by omega)]];go_enter Tryz.func97,Tryz.ntmps97;go_wp2;go_ret3
  exact⟨rfl,Below.refl _ _⟩
structure CV (t:Tk):Prop where
 size:t.text.size<=40000
 word:t.kind=1->1<=t.text.size
 num:t.kind=2->zX t.text/\1<=t.text.size/\t.text.size<=6/\rP t.text=jB t.text
def fA (ts:List Tk):Prop:=∀t∈ts,CV t
theorem fA.tail {t:Tk} {r:List Tk} (h:fA (t::r)):fA r:=λx hx=>h x (List.mem_cons_of_mem _ hx)
theorem fA.head {t:Tk} {r:List Tk} (h:fA (t::r)):CV t:=h t (List.mem_cons_self ..)
theorem fA.drop {ts:List Tk} (h:fA ts) (n:Nat):fA (ts.drop n):=λx hx=>h x (List.mem_of_mem_drop hx)
def gU (ts:List Tk) (en:Int):Int:=match ts with
 | t::_=>t.pos
 | []=>en
theorem Ud:∀(l:List UInt8) (acc:Nat),(∀b∈l,aP b=true)->∃m:Nat,Lib.decFrom acc l=some m/\(m:Int)=tJ l acc
 | [],acc,_=>⟨acc,rfl,rfl⟩
 | b::r,acc,h=>by
  have hb:=h b (List.mem_cons_self ..);simp only[aP,Bool.and_eq_true,decide_eq_true_eq]at hb;have hd:Lib.digitVal b=some (b.toNat-48):=by unfold Lib.digitVal;rw[if_pos (by omega)]
  obtain⟨m,h1,h2⟩:=Ud r (acc*10+(b.toNat-48)) (λx hx=>h x (List.mem_cons_of_mem _ hx));refine⟨m,by simp only[Lib.decFrom,hd];exact h1,?_⟩;rw[h2,tJ];congr 1;omega
theorem aaM {s:ByteArray} (h:zX s) (h1:1<=s.size):Lib.atoi s.data.toList=some (jB s):=by
 have hl:s.data.toList.length=s.size:=by simp
 have hm:=T_ h;unfold jB;rw[IJ];generalize s.data.toList=l at *;cases l with
 | nil=>simp at hl;omega
 | cons b r =>
  obtain⟨m,e1,e2⟩:=Ud (b::r) 0 hm
  have hb:=hm b (List.mem_cons_self ..)
  simp only[aP,Bool.and_eq_true,decide_eq_true_eq]at hb
  have n1:(b==45)=false:=by rw[beq_eq_false_iff_ne];rintro rfl;simp at hb
  have n2:(b==43)=false:=by rw[beq_eq_false_iff_ne];rintro rfl;simp at hb
  simp only[Lib.atoi,n1,n2,Bool.false_eq_true,if_false,Lib.decNat,List.isEmpty_cons,e1,Option.map_some]
  rw[e2];rfl
theorem aaN {x:ByteArray} {p:Int} (h1:1<=x.size) (h:x.size<=40000):CV ⟨1,x,p⟩:=⟨h,λ_=>h1,λh=>absurd h (by show ¬(1:Int)=2;decide)⟩
theorem aaO {x:ByteArray} {p:Int} (h:x.size<=40000) (hd:zX x/\1<=x.size/\x.size<=6/\rP x=jB x):CV ⟨2,x,p⟩:=⟨h,λh=>absurd h (by show ¬(2:Int)=1;decide),λ_=>hd⟩
theorem aaP {x:ByteArray} {p:Int} (h:x.size<=40000):CV ⟨3,x,p⟩:=⟨h,λh=>absurd h (by show ¬(3:Int)=1;decide),λh=>absurd h (by show ¬(3:Int)=2;decide)⟩
theorem aaQ (s:ByteArray) (hs:s.size<=40000):∀(n k:Nat),s.size-k=n->∀ts,dD s k=.ok ts->fA ts/\ts.length<=n:=by
 intro n;induction n using Nat.strongRecOn with
 | _ n ih =>
  intro k hn ts h
  have key:∀(x:Tk) (j:Nat),k<j->k<s.size->CV x->glue [] (dD s k)=glue ([]++[x]) (dD s j)->fA ts/\ts.length<=n:=by
   intro x j hj hk hx e;rw[MQ,h]at e;cases hr:dD s j with
   | error p=>rw[hr]at e;simp[glue]at e
   | ok r =>
    rw[hr]at e
    simp only[glue,List.nil_append,List.cons_append,Except.ok.injEq]at e
    subst e
    obtain⟨h1,h2⟩:=ih (s.size-j) (by omega) j rfl r hr
    refine⟨?_,by simp;omega⟩
    intro t ht
    rcases List.mem_cons.1 ht with rfl|ht
    ·exact hx
    ·exact h1 t ht
  by_cases hk:k<s.size
  ·by_cases hb:s[k]=32\/s[k]=10
   ·rw[MS hk hb]at h
    obtain⟨h1,h2⟩:=ih (s.size-(k+1)) (by omega) (k+1) rfl ts h
    exact⟨h1,by omega⟩
   cases hl:dL s[k]with
   | true =>
    have he:=oH (p:=bV) (s:=s) (i:=k+1) hk
    have hz:=wR (s:=s) (k:=k) (j:=endOf bV s (k+1)) (by omega) he.2
    exact key ⟨1,dh s k (endOf bV s (k+1)),k⟩ (endOf bV s (k+1)) (by omega) hk (aaN (by rw[hz];omega) (by rw[hz];omega)) (EU hk hb hl [])
   | false =>
    cases hd:aP s[k]with
    | true =>
     by_cases hg:endOf aP s (k+1)-k > 6\/(endOf aP s (k+1)-k > 1/\s[k]=48)
     ·rw[zW hk hb hl hd hg]at h;cases h
     ·have he:=oH (p:=aP) (s:=s) (i:=k+1) hk
      have hz:=wR (s:=s) (k:=k) (j:=endOf aP s (k+1)) (by omega) he.2
      exact key ⟨2,dh s k (endOf aP s (k+1)),k⟩ (endOf aP s (k+1)) (by omega) hk (aaO (by rw[hz];omega) ⟨MZ hk hd,by rw[hz];omega,by rw[hz];omega,M_ hk hd hg⟩) (EW hk hb hl hd hg [])
    | false =>
     cases hs2:lI s[k]with
     | true =>
      have hz:=wR (s:=s) (k:=k) (j:=k+1) (by omega) (by omega)
      exact key ⟨3,dh s k (k+1),k⟩ (k+1) (Nat.lt_succ_self k) hk (aaP (by rw[hz];omega)) (MV hk hb hl hd hs2 [])
     | false=>rw[MW hk hb hl hd hs2]at h;cases h
  ·rw[MR (by omega)]at h
   cases h
   simp[fA]
theorem IL {s:ByteArray} {ts:List Tk} (h:iU s=.ok ts):fA ts/\ts.length<=40000/\s.size<=40000:=by
 unfold iU at h;split at h
 ·cases h
 ·rename_i hs
  obtain⟨h1,h2⟩:=aaQ s (by omega) _ 0 rfl ts h;exact⟨h1,by omega,by omega⟩
def f_:Rd->Nat->Option Nat
 | [],k=>some k
 | x::r,k=>if x.1.kind=15\/x.1.kind=16 then(if 2<=k then f_ r (k-1)else none)else f_ r (k+1)
theorem Nb (a b:Rd) (k:Nat):f_ (a++b) k=(f_ a k).bind (f_ b):=by
 induction a generalizing k with
 | nil=>rfl
 | cons x r ih =>
  simp only[List.cons_append,f_]
  split
  ·split
   ·exact ih _
   ·rfl
  ·exact ih _
structure yD (n:Nd):Prop where
 size:n.name.size<=40000
 val:n.kind=17->n.value=0
 op:n.kind=15\/n.kind=16->n.value=0/\n.name=ByteArray.empty
theorem Ue (k:Int) (hk:k≠17):yD ⟨k,0,⟨#[]⟩⟩:=⟨by simp[ByteArray.size],λh=>absurd h hk,λ_=>⟨rfl,rfl⟩⟩
def vC (nw:Rd):Prop:=∀k,f_ nw k=some (k+1)
def wU (nw:Rd):Prop:=∀k,1<=k->f_ nw k=some k
structure kM (W:Rd->Prop) (ts:List Tk) (out:Rd) (r:pJ):Prop where
 suf:∃n,r.rest=ts.drop n
 new:r.bad=false->∃nw,r.out=out++nw/\W nw/\∀x∈nw,yD x.1
theorem qJ {W:Rd->Prop} {ts:List Tk} {out o:Rd} {r:List Tk} (h:∃n,r=ts.drop n):kM W ts out ⟨true,r,o⟩:=⟨h,λhb=>by cases hb⟩
theorem Uf {ts r:List Tk} {out o:Rd} {res:pJ} (h1:kM vC ts out ⟨false,r,o⟩) (h2:kM wU r o res):kM vC ts out res:=by
 obtain⟨n,hn⟩:=h1.suf;obtain⟨m,hm⟩:=h2.suf;refine⟨⟨n+m,by rw[hm];simp only at hn;rw[hn,List.drop_drop]⟩,λhb=>?_⟩;obtain⟨a,ha,wa,pa⟩:=h1.new rfl;obtain⟨b,hb',wb,pb⟩:=h2.new hb;refine⟨a++b,by rw[hb'];simp only at ha;rw[ha,List.append_assoc],λk=>by rw[Nb,wa k];exact wb (k+1) (by omega),?_⟩;intro x hx;rcases List.mem_append.1 hx with hx|hx
 ·exact pa x hx
 ·exact pb x hx
theorem Ug {ts r:List Tk} {out o:Rd} {op:Nd×Int} {res:pJ} (hop:op.1.kind=15\/op.1.kind=16) (hp:yD op.1) (h1:kM vC ts.tail out ⟨false,r,o⟩) (h2:kM wU r (o++[op]) res):kM wU ts out res:=by
 obtain⟨n,hn⟩:=h1.suf;obtain⟨m,hm⟩:=h2.suf;refine⟨⟨1+n+m,by rw[hm];simp only at hn;rw[hn,<-List.drop_one,List.drop_drop,List.drop_drop,Nat.add_assoc]⟩,λhb=>?_⟩;obtain⟨a,ha,wa,pa⟩:=h1.new rfl;obtain⟨b,hb',wb,pb⟩:=h2.new hb;refine⟨a++[op]++b,by rw[hb'];simp only at ha;rw[ha];simp,λk hk=>?_,?_⟩
 ·rw[Nb,Nb,wa k];simp only[Option.bind_some,f_,if_pos hop];rw[if_pos (by omega)];exact wb k hk
 ·intro x hx;rcases List.mem_append.1 hx with hx|hx
  ·rcases List.mem_append.1 hx with hx|hx
   ·exact pa x hx
   ·simp at hx;subst hx;exact hp
  ·exact pb x hx
theorem Uh (s:ByteArray) (d:Int):∀(l:List ByteArray) (k:Nat),kV s d l k=d\/∃j:Nat,kV s d l k=(j:Int)/\j<k+l.length
 | [],k=>.inl rfl
 | x::r,k=>by
  unfold kV;split
  ·exact .inr ⟨k,rfl,by simp⟩
  ·rcases Uh s d r (k+1)with h|⟨j,h1,h2⟩
   ·exact .inl h
   ·exact .inr ⟨j,h1,by simp;omega⟩
theorem Ui (s:ByteArray):bg s=17\/(0<=bg s/\bg s<=14):=by
 unfold bg;rcases Uh s 17 kN 0 with h|⟨j,h1,h2⟩
 ·exact .inl h
 ·refine .inr ?_;have:kN.length=15:=rfl;rw[h1];omega
theorem Uj {x:Nd×Int} (h:¬(x.1.kind=15\/x.1.kind=16)):vC [x]:=λk=>by simp[f_,h]
theorem CW:∀f:Nat,(∀ts out,fA ts->kM vC ts out (bQ f ts out))/\(∀ts out,fA ts->kM vC ts out (fU f ts out))/\(∀ts out,fA ts->kM wU ts out (jl f ts out)) /\
  (∀ts out,fA ts->kM vC ts out (fQ f ts out))/\(∀ts out,fA ts->kM wU ts out (jm f ts out))
 | f=>by
  have rest:∀{W:Rd->Prop} {ts:List Tk} {out:Rd} {r:pJ},fA ts->kM W ts out r->fA r.rest:=λht h=>by
   obtain⟨n,hn⟩:=h.suf;rw[hn];exact ht.drop n
  have hpart:∀ts out,fA ts->kM vC ts out (bQ f ts out):=by
   intro ts out ht;rw[bQ.eq_def];cases f with
   | zero=>exact qJ ⟨0,rfl⟩
   | succ f =>
    obtain⟨_,_,_,hT,_⟩:=CW f
    simp only
    by_cases hy:bI ts 40=true
    ·rw[if_pos hy]
     have h1:=hT ts.tail out (by rw[<-List.drop_one];exact ht.drop 1)
     have ht1:∀n,ts.tail.drop n=ts.drop (1+n):=λn=>by rw[<-List.drop_one,List.drop_drop]
     cases hq:fQ f ts.tail out with
     | mk bad r o =>
      rw[hq]at h1
      obtain⟨n,hn⟩:=h1.suf
      simp only at hn
      cases bad with
      | true=>exact qJ ⟨1+n,by rw[hn,ht1]⟩
      | false =>
       simp only
       split
       ·refine⟨⟨1+n+1,by show r.tail=_;rw[hn,ht1,<-List.drop_one,List.drop_drop]⟩,λ_=>h1.new rfl⟩
       ·exact qJ ⟨1+n,by rw[hn,ht1]⟩
    ·rw[if_neg hy]
     cases ts with
     | nil=>exact qJ ⟨0,rfl⟩
     | cons t r =>
      simp only
      by_cases hk:t.kind=1
      ·rw[if_pos hk]
       have hts:=ht.head.size
       by_cases hv:bg t.text=1\/bg t.text=7\/bg t.text=13
       ·rw[if_pos hv]
        cases r with
        | nil=>exact qJ ⟨1,rfl⟩
        | cons n r2 =>
         simp only
         split
         ·refine⟨⟨2,rfl⟩,λ_=>⟨_,rfl,Uj ?_,?_⟩⟩
          ·simp only;omega
          ·intro x hx;simp at hx;subst hx;exact⟨by simp[ByteArray.size],λh=>by simp only at h;omega,λh=>by simp only at h;omega⟩
         ·exact qJ ⟨1,rfl⟩
       ·rw[if_neg hv]
        refine⟨⟨1,rfl⟩,λ_=>⟨_,rfl,Uj ?_,?_⟩⟩
        ·have:=Ui t.text;simp only[jI];omega
        ·intro x hx;simp at hx;subst hx
         refine⟨?_,λ_=>rfl,λh=>?_⟩
         ·simp only[jI]
          split
          ·exact hts
          ·simp[ByteArray.size]
         ·have:=Ui t.text;simp only[jI]at h;omega
      ·rw[if_neg hk]
       exact qJ ⟨0,rfl⟩
  have hrows:∀ts out,fA ts->kM wU ts out (jl f ts out):=by
   intro ts out ht;rw[jl.eq_def];have stop:kM wU ts out ⟨false,ts,out⟩:=⟨⟨0,rfl⟩,λ_=>⟨[],by simp,λk _=>rfl,by simp⟩⟩
   cases f with
   | zero =>
    simp only
    cases bI ts 42
    ·exact stop
    ·exact qJ ⟨0,rfl⟩
   | succ f =>
    obtain⟨hP,_,hR,_,_⟩:=CW f
    simp only
    by_cases hy:bI ts 42=true
    ·rw[if_pos hy]
     have htt:fA ts.tail:=by rw[<-List.drop_one];exact ht.drop 1
     have h1:=hP ts.tail out htt
     cases hq:bQ f ts.tail out with
     | mk bad r o =>
      rw[hq]at h1
      cases bad with
      | true=>obtain⟨n,hn⟩:=h1.suf;exact qJ ⟨1+n,by simp only at hn;rw[hn,<-List.drop_one,List.drop_drop]⟩
      | false=>exact Ug (.inr rfl) (Ue _ (by decide)) h1 (hR _ _ (rest htt h1))
    ·rw[if_neg hy]
     exact stop
  have hrow:∀ts out,fA ts->kM vC ts out (fU f ts out):=by
   intro ts out ht;rw[fU.eq_def];have h1:=hpart ts out ht;cases hq:bQ f ts out with
   | mk bad r o =>
    rw[hq]at h1
    cases bad with
    | true=>exact qJ h1.suf
    | false=>exact Uf h1 (hrows _ _ (rest ht h1))
  have Uk:∀ts out,fA ts->kM wU ts out (jm f ts out):=by
   intro ts out ht;rw[jm.eq_def];have stop:kM wU ts out ⟨false,ts,out⟩:=⟨⟨0,rfl⟩,λ_=>⟨[],by simp,λk _=>rfl,by simp⟩⟩
   cases f with
   | zero =>
    simp only
    cases bI ts 59
    ·exact stop
    ·exact qJ ⟨0,rfl⟩
   | succ f =>
    obtain⟨_,hP,_,_,hR⟩:=CW f
    simp only
    by_cases hy:bI ts 59=true
    ·rw[if_pos hy]
     have htt:fA ts.tail:=by rw[<-List.drop_one];exact ht.drop 1
     have h1:=hP ts.tail out htt
     cases hq:fU f ts.tail out with
     | mk bad r o =>
      rw[hq]at h1
      cases bad with
      | true=>obtain⟨n,hn⟩:=h1.suf;exact qJ ⟨1+n,by simp only at hn;rw[hn,<-List.drop_one,List.drop_drop]⟩
      | false=>exact Ug (.inl rfl) (Ue _ (by decide)) h1 (hR _ _ (rest htt h1))
    ·rw[if_neg hy]
     exact stop
  have mG:∀ts out,fA ts->kM vC ts out (fQ f ts out):=by
   intro ts out ht;rw[fQ.eq_def];have h1:=hrow ts out ht;cases hq:fU f ts out with
   | mk bad r o =>
    rw[hq]at h1
    cases bad with
    | true=>exact qJ h1.suf
    | false=>exact Uf h1 (Uk _ _ (rest ht h1))
  exact⟨hpart,hrow,hrows,mG,Uk⟩
def dG (leaf:Nd->Option W2):Rd->Nat->List W2->Option (Int×Int)
 | [],_,_=>none
 | x::r,i,st =>
  if 400<=i then some (x.2,1)
  else if x.1.kind=15\/x.1.kind=16 then
   (match st with
   | b::a::st'=>(match gJ x.1.kind a b with
    | some w=>dG leaf r (i+1) (w::st')
    | none=>some (x.2,7))
   | _=>some (x.2,7))
  else(match leaf x.1 with
   | some w=>dG leaf r (i+1) (w::st)
   | none=>some (x.2,if x.1.kind=17 then 5 else 6))
section
variable {leaf:Nd -> Option W2} {x:Nd × Int} {r:Rd} {i:Nat} {st:List W2}
theorem EZ (h:400<=i):dG leaf (x::r) i st=some (x.2,1):=by unfold dG;rw[if_pos h]
theorem CX {a b w:W2} (h:¬400<=i) (hk:x.1.kind=15\/x.1.kind=16) (hj:gJ x.1.kind a b=some w):dG leaf (x::r) i (b::a::st)=dG leaf r (i+1) (w::st):=by
 conv=>lhs;unfold dG
 rw[if_neg h,if_pos hk];simp only[hj]
theorem E5 {a b:W2} (h:¬400<=i) (hk:x.1.kind=15\/x.1.kind=16) (hj:gJ x.1.kind a b=none):dG leaf (x::r) i (b::a::st)=some (x.2,7):=by
 conv=>lhs;unfold dG
 rw[if_neg h,if_pos hk];simp only[hj]
theorem CY {w:W2} (h:¬400<=i) (hk:¬(x.1.kind=15\/x.1.kind=16)) (hl:leaf x.1=some w):dG leaf (x::r) i st=dG leaf r (i+1) (w::st):=by
 conv=>lhs;unfold dG
 rw[if_neg h,if_neg hk];simp only[hl]
theorem CZ (h:¬400<=i) (hk:¬(x.1.kind=15\/x.1.kind=16)) (hl:leaf x.1=none):dG leaf (x::r) i st=some (x.2,if x.1.kind=17 then 5 else 6):=by
 conv=>lhs;unfold dG
 rw[if_neg h,if_neg hk];simp only[hl]
end
theorem Nc {f g:Nd->Option W2} (h:∀n,¬(n.kind=15\/n.kind=16)->f n=g n):∀(r:Rd) (i:Nat) (st:List W2),dG f r i st=dG g r i st
 | [],_,_=>rfl
 | x::r,i,st=>by
  by_cases hi:400<=i
  ·rw[EZ hi,EZ hi]
  by_cases hk:x.1.kind=15\/x.1.kind=16
  ·match st with
   | b::a::st' =>
    cases hj:gJ x.1.kind a b with
    | some w=>rw[CX hi hk hj,CX hi hk hj];exact Nc h r (i+1) (w::st')
    | none=>rw[E5 hi hk hj,E5 hi hk hj]
   | []=>simp[dG,hi,hk]
   | [_]=>simp[dG,hi,hk]
  ·have e:=h x.1 hk;cases hl:g x.1 with
   | some w=>rw[CY hi hk (e.trans hl),CY hi hk hl];exact Nc h r (i+1) (w::st)
   | none=>rw[CZ hi hk (e.trans hl),CZ hi hk hl]
theorem Nh {leaf:Nd->Option W2}:∀(r:Rd) (i:Nat) (st:List W2) (m:Nat),dG leaf r i st=none->f_ r st.length=some m->(∀x∈r,yD x.1)->(r=[]\/i+r.length<=400)/\∃st',bU leaf (r.map Prod.fst) st=some st'/\st'.length=m
 | [],i,st,m,_,hw,_=>by simp[f_]at hw;exact⟨.inl rfl,st,by simp[bU],hw⟩
 | x::r,i,st,m,hc,hw,hp=>by
  have hpr:∀y∈r,yD y.1:=λy hy=>hp y (List.mem_cons_of_mem _ hy);have hpx:=hp x (List.mem_cons_self ..);by_cases hi:400<=i
  ·rw[EZ hi]at hc;cases hc
  have len:∀{r':Rd},(r'=[]\/i+1+r'.length<=400)->i+(x::r').length<=400:=λh=>by
   rcases h with h|h
   ·subst h;simp;omega
   ·simp;omega
  by_cases hk:x.1.kind=15\/x.1.kind=16
  ·unfold f_ at hw;rw[if_pos hk]at hw;match st,hw,hc with
   | b::a::st',hw,hc =>
    cases hj:gJ x.1.kind a b with
    | none=>rw[E5 hi hk hj]at hc;cases hc
    | some w =>
     rw[CX hi hk hj]at hc
     rw[if_pos (by simp)]at hw
     obtain⟨h1,st2,h2,h3⟩:=Nh r (i+1) (w::st') m hc (by simpa using hw) hpr
     refine⟨.inr (len h1),st2,?_,h3⟩
     rw[List.map_cons]
     conv=>lhs;unfold bU
     rw[if_pos hk,if_pos (hpx.op hk)]
     simp only[hj]
     exact h2
   | [],hw,hc=>simp at hw
   | [_],hw,hc=>simp at hw
  ·unfold f_ at hw;rw[if_neg hk]at hw;cases hl:leaf x.1 with
   | none=>rw[CZ hi hk hl]at hc;cases hc
   | some w =>
    rw[CY hi hk hl]at hc
    obtain⟨h1,st2,h2,h3⟩:=Nh r (i+1) (w::st) m hc (by simpa using hw) hpr
    refine⟨.inr (len h1),st2,?_,h3⟩
    rw[List.map_cons,IQ hk hl]
    exact h2
theorem Ul {leaf:Nd->Option W2} {r:Rd} (hc:dG leaf r 0 []=none) (hw:f_ r 0=some 1) (hp:∀x∈r,yD x.1):∃t,aS leaf (r.map Prod.fst)=some t:=by
 obtain⟨h1,st,h2,h3⟩:=Nh r 0 [] 1 hc hw hp;have hne:r≠[]:=by rintro rfl;simp[f_]at hw
 have hl:1<=r.length:=by cases r with|nil=>exact absurd rfl hne|cons x r=>simp
 have h4:=h1.resolve_left hne;match st,h3,h2 with
 | [t],_,h2 =>
  refine⟨t,?_⟩
  unfold aS
  rw[if_pos (by simp;omega),h2]
def kW (L:List Df) (en:Int) (ts:List Tk):Except (Int×Int) (List Nd) :=
 match fQ ts.length ts []with
 |⟨true,r,_⟩=>.error (gU r en,4)
 |⟨false,r,o⟩ =>
  if r≠[]then .error (gU r en,4)else
  match dG (aO L) o 0 []with
  | some p=>.error p
  | none=>.ok (o.map Prod.fst)
def jJ (L:List Df) (s:ByteArray):Option Df :=
 match iU s with
 | .error _=>none
 | .ok ts =>
  match ts with
  | []=>none
  | t::r =>
   if t.kind=1/\bI r 61=true then
    (match kW L s.size r.tail with
    | .error _=>none
    | .ok ns=>some ⟨t.text,((aS (aO L) ns).getD (0,0)).1,((aS (aO L) ns).getD (0,0)).2,ns⟩)
   else none
def dX (L:List Df) (s:ByteArray):Option Df :=
 match jJ L s with
 | none=>none
 | some d=>if nameB d.name=true/\findD L d.name=none then some d else none
theorem Um {L:List Df} {en:Int} {ts:List Tk} {ns:List Nd} (ht:fA ts) (h:kW L en ts=.ok ns):∃t,aS (aO L) ns=some t:=by
 unfold kW at h;have hr:=(CW ts.length).2.2.2.1 ts [] ht;cases hq:fQ ts.length ts []with
 | mk bad r o =>
  rw[hq]at h hr
  cases bad with
  | true=>cases h
  | false =>
   simp only at h
   split at h
   ·cases h
   ·cases hc:dG (aO L) o 0 []with
    | some p=>rw[hc]at h;cases h
    | none =>
     rw[hc]at h
     simp only[Except.ok.injEq]at h
     subst h
     obtain⟨nw,h1,h2,h3⟩:=hr.new rfl
     simp only[List.nil_append]at h1
     subst h1
     exact Ul hc (h2 0) h3
end Go.Proofs.YtikgblkfmpecfaaGreatDoor
