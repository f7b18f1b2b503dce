/-
  Libraries read from their texts. No program in sight. Own work.
-/
import Derived.Test.YtikgblkfmpecfaaGreatDoorWAA
import Derived.Lib.IndexMore
import Derived.Test.YtikgblkfmpecfaaGreatDoorWT
import Derived.Test.YtikgblkfmpecfaaGreatDoorWA
set_option linter.all false
set_option maxRecDepth 100000
set_option maxHeartbeats 8000000
namespace Go.Proofs.YtikgblkfmpecfaaGreatDoor
open Go.RowKit
def splitB (b:UInt8):List UInt8->List UInt8->List (List UInt8)
 | acc,[]=>[acc]
 | acc,c::r=>if c=b then acc::splitB b [] r else splitB b (acc++[c]) r
theorem KC (b:UInt8):∀(l acc:List UInt8),splitB b acc l≠[]
 | [],acc=>by simp[splitB]
 | c::r,acc=>by
  unfold splitB;split
  ·simp
  ·exact KC b r _
theorem Ql (b:UInt8):∀(l acc:List UInt8),(splitB b acc l).length<=l.length+1
 | [],acc=>by simp[splitB]
 | c::r,acc=>by
  unfold splitB;split
  ·have:=Ql b r [];simp;omega
  ·have:=Ql b r (acc++[c]);simp;omega
theorem KD (b:UInt8):∀(l acc:List UInt8),b ∉ l->splitB b acc l=[acc++l]
 | [],acc,_=>by simp[splitB]
 | c::r,acc,h=>by
  unfold splitB;rw[if_neg (by rintro rfl;simp at h),KD b r _ (by simp at h;exact h.2)];simp
theorem Gx (b:UInt8):∀(l x r acc:List UInt8),l=x++b::r->b ∉ x->splitB b acc l=(acc++x)::splitB b [] r
 | l,[],r,acc,h,_=>by subst h;simp[splitB]
 | l,c::x,r,acc,h,hx=>by
  subst h;simp only[List.cons_append];conv=>lhs;unfold splitB
  rw[if_neg (by rintro rfl;simp at hx),Gx b _ x r _ rfl (by simp at hx;exact hx.2)];simp
theorem index_one (b:UInt8):∀l:List UInt8,(b ∉ l/\Lib.index l [b]=-1)\/∃x r,l=x++b::r/\b ∉ x/\Lib.index l [b]=(x.length:Int)
 | []=>.inl ⟨by simp,by simp[Lib.index]⟩
 | c::l=>by
  unfold Lib.index;by_cases h:b=c
  ·subst h;refine .inr ⟨[],l,rfl,by simp,?_⟩;simp
  ·have hp:([b]:List UInt8).isPrefixOf (c::l)=false:=by simp[List.isPrefixOf,h]
   rw[hp];rcases index_one b l with⟨h1,h2⟩|⟨x,r,h1,h2,h3⟩
   ·exact .inl ⟨by simp[h,h1],by rw[h2];rfl⟩
   ·refine .inr ⟨c::x,r,by rw[h1];rfl,by simp[h,h2],?_⟩;rw[h3];have:((x.length:Int)==-1)=false:=by rw[beq_eq_false_iff_ne];omega
    rw[this];simp
theorem sD (b:UInt8) (l:List UInt8):(Lib.cut l [b]=(l,[],false)/\b ∉ l)\/∃x r,l=x++b::r/\b ∉ x/\Lib.cut l [b]=(x,r,true):=by
 rcases index_one b l with⟨h1,h2⟩|⟨x,r,h1,h2,h3⟩
 ·refine .inl ⟨?_,h1⟩;unfold Lib.cut;rw[h2,if_neg (by omega)]
 ·refine .inr ⟨x,r,h1,h2,?_⟩;unfold Lib.cut;rw[h3,if_pos (by omega)];subst h1;have e1:((x.length:Int)).toNat=x.length:=by omega
  rw[e1];simp
def bytesOf (l:List UInt8):ByteArray:=⟨l.toArray⟩
def dF (w:World):Prop:=∃m,w.cell? ⟨2,0,none⟩=some (.int .i64 m)
theorem dF.keep {w w':World} (hb:Below w.heap.size w w') (h:dF w):dF w':=⟨h.choose,ak hb h.choose_spec⟩
theorem Vy {w:World} (h:w.ShapedOpen Tryz.prog):dF w :=
 cell_of_shapedOpen_int (zero:=#[.int .i64 0]) (t:=3) h (of_decide_eq_true (by kernel_rfl)) (by kernel_rfl) rfl (by kernel_rfl) (by kernel_rfl) Tryz.underlying3
theorem XO (s sep:ByteArray) (w:World) (ht:dF w) (hs:s.size<=4194304) :
  Calls Tryz.prog 127 #[.string s,.string sep] w λe w'=>e=.returned (.tuple #[.string (bytesOf (Lib.cut s.data.toList sep.data.toList).1),.string (bytesOf (Lib.cut s.data.toList sep.data.toList).2.1),.bool (Lib.cut s.data.toList sep.data.toList).2.2])/\Below w.heap.size w w':=by
 obtain⟨m,hm⟩:=ht;refine(Tryz.strings_Cut s sep m w (by omega) hm).mono ?_;rintro e w'⟨rfl,n,rfl⟩;exact⟨rfl,below_drewN (Below.refl _ _) _⟩
theorem XP {t:ByteArray} {b:UInt8} {w:World} (ht:dF w) (hs:t.size<=4194304) (h:Lib.cut t.data.toList [b]=(t.data.toList,[],false)) :
  Calls Tryz.prog 127 #[.string t,.string ⟨#[b]⟩] w λe w'=>e=.returned (.tuple #[.string t,.string ⟨#[]⟩,.bool false])/\Below w.heap.size w w':=by
 refine(XO t ⟨#[b]⟩ w ht hs).mono ?_;rintro e w'⟨rfl,hb⟩;refine⟨?_,hb⟩;rw[show(⟨#[b]⟩:ByteArray).data.toList=[b]from rfl,h];cases t;rfl
theorem XQ {t:ByteArray} {b:UInt8} {x r:List UInt8} {w:World} (ht:dF w) (hs:t.size<=4194304) (h:Lib.cut t.data.toList [b]=(x,r,true)) :
  Calls Tryz.prog 127 #[.string t,.string ⟨#[b]⟩] w λe w'=>e=.returned (.tuple #[.string (bytesOf x),.string (bytesOf r),.bool true])/\Below w.heap.size w w':=by
 refine(XO t ⟨#[b]⟩ w ht hs).mono ?_;rintro e w'⟨rfl,hb⟩;refine⟨?_,hb⟩;rw[show(⟨#[b]⟩:ByteArray).data.toList=[b]from rfl,h]
theorem Qm (b:UInt8):∀(l acc p:List UInt8),p∈splitB b acc l->p.length<=acc.length+l.length
 | [],acc,p,h=>by simp[splitB]at h;subst h;simp
 | c::l,acc,p,h=>by
  unfold splitB at h;split at h
  ·rcases List.mem_cons.1 h with rfl|h
   ·simp
   ·have:=Qm b l [] p h;simp at this ⊢;omega
  ·have:=Qm b l _ p h;simp at this ⊢;omega
theorem infoSt:(Tryz.prog.info? 9).map (λi=>(i.zero,i.size,i.bytes))=some (some (.string ⟨#[]⟩),1,16):=by kernel_rfl
def Gy (p:List UInt8):List Value:=[.string (bytesOf p)]
theorem adU (p:List UInt8):(Gy p).length=1:=rfl
def ru (w:World) (B:Nat) (v:Value) (ps:List (List UInt8)):Prop:=w.ownsRow B 9 1 v ps.length (ps.flatMap Gy)
def PartsAt (w:World) (v:Value) (ps:List (List UInt8)):Prop:=iT 1 v ps.length λi b o=>∃h:i<ps.length,w.cell? ⟨b,o,none⟩=some (.string (bytesOf ps[i]))
theorem ru.at {w:World} {B:Nat} {v:Value} {ps:List (List UInt8)} (h:ru w B v ps):PartsAt w v ps:=by
 refine yw h _ λi b o hi hc=>⟨hi,?_⟩
 have g:∀j,j<1->w.cell? ⟨b,o+j,none⟩=(Gy ps[i])[j]?:=λj hj=>(hc j hj).trans (flat_get adU ps i j hi hj);exact g 0 (by omega)
theorem PartsAt.keep {w w':World} (hb:Below w.heap.size w w') {v:Value} {ps:List (List UInt8)} (h:PartsAt w v ps):PartsAt w' v ps :=
 h.mono λi b o ⟨hi,hr⟩=>⟨hi,ak hb hr⟩
theorem XR {w:World} {B:Nat} {v:Value} {ps:List (List UInt8)} {t:ByteArray} (p:List UInt8) (hp:bytesOf p=t) (h:w.ownsRow B 9 1 v (ps.length+1) (ps.flatMap Gy++[.string t])):ru w B v (ps++[p]):=by
 subst hp;unfold ru;simpa[List.flatMap_append,Gy]using h
def nZ (s:ByteArray) (i j:Nat):List UInt8:=(s.extract i j).data.toList
theorem Ea (s:ByteArray) (i j:Nat):bytesOf (nZ s i j)=s.extract i j:=by unfold bytesOf nZ;cases s.extract i j;rfl
theorem xP (s:ByteArray) (i j:Nat):nZ s i j=(s.data.toList.take j).drop i:=by
 unfold nZ;simp[ByteArray.extract,ByteArray.copySlice,List.drop_take]
theorem XT (s:ByteArray) (k:Nat):nZ s k k=[]:=by rw[xP];apply List.drop_eq_nil_of_le;simp;omega
theorem XU (s:ByteArray) (f k:Nat) (h:f<=k) (hk:k<s.size):nZ s f (k+1)=nZ s f k++[s[k]]:=by
 have hk':k<s.data.toList.length:=by simpa using hk
 rw[xP,xP,List.take_succ_eq_append_getElem hk',List.drop_append_of_le_length (by simp;omega)];rfl
theorem drop_step (s:ByteArray) (k:Nat) (hk:k<s.size):s.data.toList.drop k=s[k]::s.data.toList.drop (k+1):=List.drop_eq_getElem_cons (by simpa using hk)
theorem adV {b:UInt8} {acc r:List UInt8} {c:UInt8} (h:c=b):splitB b acc (c::r)=acc::splitB b [] r:=by conv=>lhs;unfold splitB;rw[if_pos h]
theorem adW {b:UInt8} {acc r:List UInt8} {c:UInt8} (h:¬c=b):splitB b acc (c::r)=splitB b (acc++[c]) r:=by conv=>lhs;unfold splitB;rw[if_neg h]
theorem adX (s:ByteArray) (b:UInt8) (w:World) (hs:s.size<=4194304) :
  Calls Tryz.prog 178 #[.string s,.int .u8 b.toNat] w λe w'=>∃v,e=.returned v/\ru w' w.heap.size v (splitB b [] s.data.toList)/\Below w.heap.size w w':=by
 obtain⟨R,hR⟩:∃R,splitB b [] s.data.toList=R:=⟨_,rfl⟩
 rw[hR];have HR:=Lib.hid hR;have hRl:R.length<=s.size+1:=by rw[<-hR];have:=Ql b s.data.toList [];simpa using this
 clear hR;obtain⟨i0,hi,hz0,hz1,hz2⟩:=info_parts infoSt;go_enter Tryz.func178,Tryz.ntmps178;go_wp2;go_loopw [5,6,7] (λv fv i wr=>∃(k f:Nat) (ps:List (List UInt8)),k<=s.size/\f<=k/\i=.int .i64 k/\fv=.int .i64 f/\ru wr w.heap.size v ps/\Hid (R=ps++splitB b (nZ s f k) (s.data.toList.drop k))/\Below w.heap.size w wr/\ps.length<=k) (λ_ _ i _=>s.size-(intOf i).toNat)
 case atStart=>exact⟨0,0,[],Nat.zero_le _,Nat.le_refl _,rfl,rfl,⟨by simp,.inl ⟨rfl,rfl⟩⟩,(by rw[XT];exact HR.out.symm:Hid (R=[]++splitB b (nZ s 0 0) (s.data.toList.drop 0))),Below.refl _ _,Nat.le_refl _⟩
 case round =>
  obtain⟨k,f,ps,hk,hfk,rfl,rfl,hown,HG,hbel,hal⟩:=hrel
  have hsz:=hbel.size
  obtain⟨ao,cp,rfl⟩:=jW hown
  by_cases hlt:k<s.size
  ·by_cases hb:s[k]=b
   ·have hbb:((s[k].toNat:Int)==b.toNat)=true:=by rw[hb];simp
    have HS:Hid (R=(ps++[nZ s f k])++splitB b (nZ s (k+1) (k+1)) (s.data.toList.drop (k+1))):=(show _=_ by rw[HG.out,drop_step s k hlt,adV hb,XT];simp)
    clear HG hb
    go_wp2_with (at_builtin;refine wpList_append_own _ rfl _ _ 89 rfl w.heap.size 9 i0 _ 1 16 Tryz.underlying89 hi hz0 hz1 hz2 rfl (by decide) _ _ _ rfl (hown.alloc _) ⟨wr.heap.size,0,none⟩ 1 1 [.string (s.extract f k)] rfl rfl ?c1 ?c2 ?c3 ?c4 ?c5 ?_)
    case c1 =>
     intro i u hj
     match i,hj with
     | 0,hj=>simp at hj;subst hj;simp[Addr.add]
    case c2=>first|(intro u hu;simp at hu;subst hu;rfl)|exact rfl
    case c3=>first|omega|(unfold maxLen;omega)
    case c4=>omega
    case c5=>first|omega|(simp;omega)
    intro v' w3 hown3 hgrow _
    have hb3:Below w.heap.size w w3:=(hbel.alloc (by omega) _).grown hgrow (by simp;omega) (λj hj=>(World.ownsRow.lt hown j hj).1)
    have hown4:=XR _ (Ea s f k) hown3
    clear hown3 hgrow hown
    go_wp2
    go_roundw
    case rel=>exact⟨k+1,k+1,_,by omega,Nat.le_refl _,by go_num,by go_num,hown4,HS,hb3,by simp;omega⟩
    case measure=>simp[intOf];omega
   ·have hbb:((s[k].toNat:Int)==b.toNat)=false:=by rw[lJ _ _ (by have:=b.toNat_lt;omega)];simpa using hb
    have HS:Hid (R=ps++splitB b (nZ s f (k+1)) (s.data.toList.drop (k+1))):=(show _=_ by rw[HG.out,drop_step s k hlt,adW hb,XU s f k hfk hlt])
    clear HG hb
    go_wp2
    go_roundw
    case rel=>exact⟨k+1,f,ps,by omega,by omega,by go_num,rfl,hown,HS,hbel,by omega⟩
    case measure=>simp[intOf];omega
  ·obtain rfl:k=s.size:=by omega
   have HE:Hid (R=ps++[nZ s f s.size]):=(show _=_ by rw[HG.out,List.drop_eq_nil_of_le (by simp)];rfl)
   clear HG
   go_wp2_with (at_builtin;refine wpList_append_own _ rfl _ _ 89 rfl w.heap.size 9 i0 _ 1 16 Tryz.underlying89 hi hz0 hz1 hz2 rfl (by decide) _ _ _ rfl (hown.alloc _) ⟨wr.heap.size,0,none⟩ 1 1 [.string (s.extract f s.size)] rfl rfl ?c1 ?c2 ?c3 ?c4 ?c5 ?_)
   case c1 =>
    intro i u hj
    match i,hj with
    | 0,hj=>simp at hj;subst hj;simp[Addr.add]
   case c2=>first|(intro u hu;simp at hu;subst hu;rfl)|exact rfl
   case c3=>first|omega|(unfold maxLen;omega)
   case c4=>omega
   case c5=>first|omega|(simp;omega)
   intro v' w3 hown3 hgrow _
   have hb3:Below w.heap.size w w3:=(hbel.alloc (by omega) _).grown hgrow (by simp;omega) (λj hj=>(World.ownsRow.lt hown j hj).1)
   have hown4:=XR _ (Ea s f s.size) hown3
   clear hown3 hgrow hown
   go_wp2
   go_ret
   rw[HE.out]
   exact⟨_,rfl,hown4,hb3⟩
theorem wB {L:List Df} (h:good L=true):∀d∈L,nameB d.name=true:=by
 have go:∀(A P:List Df),dJ P A=true->∀d∈A,nameB d.name=true:=by
  intro A;induction A with
  | nil=>intro P _ d hd;cases hd
  | cons a A ih =>
   intro P hp d hd
   simp only[dJ,Bool.and_eq_true]at hp
   rcases List.mem_cons.1 hd with rfl|hd
   ·have:=hp.1;simp only[ql,Bool.and_eq_true]at this;exact this.1.2
   ·exact ih _ hp.2 d hd
 simp only[good,Bool.and_eq_true]at h;exact go L [] h.2
theorem Qn {s:ByteArray} (h:nameB s=true):(32:UInt8) ∉ s.data.toList:=by
 simp only[nameB,Bool.and_eq_true]at h;have hw:=h.1;have hsz:1<=s.size/\s.size<=8:=by
  rcases Decidable.em (1<=s.size/\s.size<=8)with h1|h1
  ·exact h1
  ·rw[I9 h1]at hw;cases hw
 have hl:dL (s[0]'(by omega))=true:=by
  cases hl:dL (s[0]'(by omega))
  ·rw[NW hsz hl]at hw;cases hw
  ·rfl
 rw[U2 hsz hl]at hw;simp only[oM,List.drop_zero,List.all_eq_true]at hw;intro hm;have:=hw 32 hm;exact absurd this (by decide)
theorem Qo {L:List Df} {n:ByteArray} {d:Df} (h:findD L n=some d):d∈L/\d.name=n:=by
 unfold findD at h;exact⟨List.mem_of_find?_eq_some h,by have:=List.find?_some h;simpa using this⟩
theorem XV {L R:List Df} {n to:ByteArray} {b:List Nd} (h:aJ L ⟨2,n,to,b⟩=some R):nameB n=true:=by
 unfold aJ at h;split at h
 ·rename_i hg
  dsimp only at h;rw[if_neg (by decide),if_pos rfl]at h;simp only[iO]at h;split at h
  ·rename_i hf
   rcases oO n L 0 with⟨h1,_⟩|⟨i,hi,h1,h2⟩
   ·omega
   ·obtain⟨h3,h4⟩:=Qo h2;have:=wB hg.1 _ h3;rwa [h4]at this
  ·cases h
 ·cases h
theorem XW {L R:List Df} {n to:ByteArray} {b:List Nd} (h:aJ L ⟨3,n,to,b⟩=some R):nameB to=true:=by
 unfold aJ at h;split at h
 ·rename_i hg
  dsimp only at h;rw[if_neg (by decide),if_neg (by decide),if_pos rfl]at h;simp only[iF]at h;split at h
  ·rename_i hf
   obtain⟨hR,rfl⟩:=zi h;rcases oO n L 0 with⟨h1,_⟩|⟨i,hi,h1,h2⟩
   ·omega
   ·obtain⟨h3,h4⟩:=Qo h2;have:=wB hR _ (List.mem_map_of_mem (f:=ig n to) h3);simpa[ig,h4]using this
  ·cases h
 ·cases h
def qA:List UInt8:=[108,101,116,32]
def rC:List UInt8:=[100,114,111,112]
def rD:List UInt8:=[110,97,109,101]
def e0:En:=⟨0,⟨#[]⟩,⟨#[]⟩,[]⟩
def iw (d:Df):En:=⟨1,d.name,⟨#[]⟩,d.body⟩
def wC (L:List Df) (l:List UInt8):Option En :=
 if qA.isPrefixOf l then(dX L (bytesOf (l.drop 4))).map iw
 else if(rC++[32]).isPrefixOf l then some ⟨2,bytesOf (l.drop 5),⟨#[]⟩,[]⟩
 else if(rD++[32]).isPrefixOf l then(if(Lib.cut (l.drop 5) [32]).2.2 then some ⟨3,bytesOf (Lib.cut (l.drop 5) [32]).1,bytesOf (Lib.cut (l.drop 5) [32]).2.1,[]⟩else none)
 else none
def Qp (L:List Df) (l:List UInt8):Option En :=
 if 4<l.length/\qA.isPrefixOf l=true then(dX L (bytesOf (l.drop 4))).map iw
 else match splitB 32 [] l with
 | [a,b]=>if a=rC then some ⟨2,bytesOf b,⟨#[]⟩,[]⟩else some e0
 | [a,b,c]=>if a=rD then some ⟨3,bytesOf b,bytesOf c,[]⟩else some e0
 | _=>some e0
def jh (L:List Df) (s:ByteArray):Option En->Option En
 | some e=>if(aJ L e).isSome=true/\aH e=s then some e else none
 | none=>none
def jR (L:List Df) (s:ByteArray):Option En:=jh L s (wC L s.data.toList)
theorem wE (L:List Df) (s:ByteArray):jh L s (some e0)=none:=by
 have:aJ L e0=none:=by
  unfold aJ;split
  ·rfl
  ·rfl
 simp[jh,this]
theorem Gz {L:List Df} {s:ByteArray} {e:En} (h:aJ L e=none):jh L s (some e)=none:=by simp[jh,h]
theorem XY {p l:List UInt8} (hp:32 ∉ p) (h:(p++[32]).isPrefixOf l=true):splitB 32 [] l=p::splitB 32 [] (l.drop (p.length+1)):=by
 obtain⟨r,rfl⟩:=List.isPrefixOf_iff_prefix.1 h;rw[Gx 32 _ p r [] (by simp) hp];simp
theorem XZ (b:UInt8):∀(l acc x y:List UInt8) (r:List (List UInt8)),splitB b acc l=x::y::r->∃z,acc++l=x++b::z
 | [],acc,x,y,r,h=>by simp[splitB]at h
 | c::l,acc,x,y,r,h=>by
  unfold splitB at h;split at h
  ·rename_i hc
   subst hc;simp only[List.cons.injEq]at h;exact⟨l,by rw[h.1]⟩
  ·obtain⟨z,hz⟩:=XZ b l _ x y r h;exact⟨z,by rw[<-hz];simp⟩
theorem X3 {l a y:List UInt8} {r:List (List UInt8)} (h:splitB 32 [] l=a::y::r):(a++[32]).isPrefixOf l=true:=by
 obtain⟨z,hz⟩:=XZ 32 l [] a y r h;rw[List.isPrefixOf_iff_prefix];exact⟨z,by simpa using hz.symm⟩
theorem adY (L:List Df):dX L (bytesOf [])=none:=by
 have:iU (bytesOf [])=.ok []:=by
  unfold iU;rw[if_neg (by decide)];unfold dD;rfl
 simp[dX,jJ,this]
theorem adZ {L:List Df} (s:ByteArray):jh L s (Qp L s.data.toList)=jR L s:=by
 unfold jR;generalize s.data.toList=l;unfold Qp wC;by_cases hlet:qA.isPrefixOf l=true
 ·rw[if_pos hlet];by_cases h4:4<l.length
  ·rw[if_pos ⟨h4,hlet⟩]
  ·rw[if_neg (λh=>h4 h.1)];obtain⟨r,hr0⟩:=List.isPrefixOf_iff_prefix.1 hlet;have hr:r=[]:=by cases r with|nil=>rfl|cons a r=>rw[<-hr0]at h4;simp[qA]at h4
   rw[hr]at hr0;rw[<-hr0];rw[show List.drop 4 (qA++([]:List UInt8))=[]from rfl,adY,show splitB 32 [] (qA++[])=[[108,101,116],[]]from by decide];simp only;rw[if_neg (by decide),wE];rfl
 rw[if_neg hlet,if_neg (λh=>hlet h.2)];by_cases hd:(rC++[32]).isPrefixOf l=true
 ·rw[if_pos hd,XY (by decide) hd,show rC.length+1=5 from rfl];generalize l.drop 5=r;rcases sD 32 r with⟨_,h1⟩|⟨x,y,h1,h2,_⟩
  ·rw[KD 32 r [] h1];simp
  ·have hno:aJ L ⟨2,bytesOf r,⟨#[]⟩,[]⟩=none:=by
    cases ha:aJ L ⟨2,bytesOf r,⟨#[]⟩,[]⟩with
    | none=>rfl
    | some R =>
     have:=Qn (XV ha)
     rw[h1]at this
     simp[bytesOf]at this
   rw[Gz hno,Gx 32 r x y [] h1 h2];have hne:=KC 32 y [];cases hs:splitB 32 [] y with
   | nil=>exact absurd hs hne
   | cons a t =>
    cases t with
    | nil=>simp only[List.nil_append];rw[if_neg (by decide),wE]
    | cons b t=>simp only[List.nil_append];rw[wE]
 rw[if_neg hd];by_cases hnm:(rD++[32]).isPrefixOf l=true
 ·rw[if_pos hnm,XY (by decide) hnm,show rD.length+1=5 from rfl];generalize l.drop 5=r;rcases sD 32 r with⟨h1,h2⟩|⟨x,y,h1,h2,h3⟩
  ·rw[h1,KD 32 r [] h2];simp only[List.nil_append];rw[if_neg (by decide),wE];rfl
  ·rw[h3,Gx 32 r x y [] h1 h2];simp only[List.nil_append,if_true];rcases sD 32 y with⟨_,h4⟩|⟨p,q,h4,h5,_⟩
   ·rw[KD 32 y [] h4];simp
   ·have hno:aJ L ⟨3,bytesOf x,bytesOf y,[]⟩=none:=by
     cases ha:aJ L ⟨3,bytesOf x,bytesOf y,[]⟩with
     | none=>rfl
     | some R =>
      have:=Qn (XW ha)
      rw[h4]at this
      simp[bytesOf]at this
    rw[Gz hno,Gx 32 y p q [] h4 h5];have hne:=KC 32 q [];cases hs:splitB 32 [] q with
    | nil=>exact absurd hs hne
    | cons a t=>simp only[List.nil_append];rw[wE]
 rw[if_neg hnm];have hz:∀o:Option En,o=some e0->jh L s o=jh L s none:=by rintro o rfl;rw[wE];rfl
 apply hz;split
 ·rename_i a b hs
  rw[if_neg];rintro rfl;exact hd (X3 hs)
 ·rename_i a b c hs
  rw[if_neg];rintro rfl;exact hnm (X3 hs)
 ·rfl
theorem Qq {L:List Df} {s:ByteArray} {e:En} (h:jR L s=some e):∃R,aJ L e=some R/\aH e=s:=by
 unfold jR at h;cases hr:wC L s.data.toList with
 | none=>rw[hr]at h;cases h
 | some x =>
  rw[hr]at h
  simp only[jh]at h
  split at h
  ·rename_i hc
   obtain rfl:=Option.some.inj h
   obtain⟨R,hR⟩:=Option.isSome_iff_exists.1 hc.1
   exact⟨R,hR,hc.2⟩
  ·cases h
end Go.Proofs.YtikgblkfmpecfaaGreatDoor
