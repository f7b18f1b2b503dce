/-
  Tokens of a list of bytes, without their places; tokens of a printed tree. No program in sight. Own work.
-/
import Derived.Test.YtikgblkfmpecfaaGreatDoorWAA
import Derived.Test.YtikgblkfmpecfaaGreatDoorWT
import Derived.Test.YtikgblkfmpecfaaGreatDoorWLW
set_option linter.all false
set_option maxRecDepth 100000
set_option maxHeartbeats 8000000
namespace Go.Proofs.YtikgblkfmpecfaaGreatDoor
def xQ (b:UInt8):Bool:=b==32 || b==10
def eF:List UInt8->Option (List (Int×ByteArray))
 | []=>some []
 | b::r =>
  if xQ b then eF r
  else if dL b then(eF (r.dropWhile bV)).map ((1,⟨(b::r.takeWhile bV).toArray⟩)::·)
  else if aP b then
   (if(r.takeWhile aP).length+1 > 6\/((r.takeWhile aP).length+1 > 1/\b=48)then none
    else(eF (r.dropWhile aP)).map ((2,⟨(b::r.takeWhile aP).toArray⟩)::·))
  else if lI b then(eF r).map ((3,⟨#[b]⟩)::·)
  else none
 termination_by l=>l.length
 decreasing_by
  all_goals simp_wf
  ·have:=(List.dropWhile_sublist bV (l:=r)).length_le;omega
  ·have:=(List.dropWhile_sublist aP (l:=r)).length_le;omega
def tk2 (t:Tk):Int×ByteArray:=(t.kind,t.text)
theorem Qr (s:ByteArray) (i j:Nat) (h:i<=j):s.extract i j=⟨((s.data.toList.drop i).take (j-i)).toArray⟩:=by
 apply ByteArray.ext;apply Array.toList_inj.1;simp[ByteArray.extract,ByteArray.copySlice,List.drop_take]
theorem X4 (p:UInt8->Bool) (l:List UInt8):l.take (l.takeWhile p).length=l.takeWhile p:=by
 induction l with
 | nil=>rfl
 | cons b r ih =>
  rw[List.takeWhile_cons]
  split
  ·simp[ih]
  ·rfl
theorem X5 (p:UInt8->Bool) (l:List UInt8):l.drop (l.takeWhile p).length=l.dropWhile p:=by
 induction l with
 | nil=>rfl
 | cons b r ih =>
  rw[List.takeWhile_cons,List.dropWhile_cons]
  split
  ·simp[ih]
  ·rfl
theorem ad1 (s:ByteArray):∀(n i:Nat),s.size-i=n->∀l,eF (s.data.toList.drop i)=some l->∃ts,dD s i=.ok ts/\ts.map tk2=l:=by
 intro n;induction n using Nat.strongRecOn with
 | _ n ih =>
  intro i hn l h
  by_cases hi:i<s.size
  ·have hd:s.data.toList.drop i=s[i]::s.data.toList.drop (i+1):=List.drop_eq_getElem_cons (by simpa using hi)
   rw[hd,eF]at h
   rw[dD,dif_pos hi]
   by_cases h1:xQ s[i]=true
   ·rw[if_pos h1]at h
    rw[if_pos (by simpa[xQ]using h1)]
    exact ih (s.size-(i+1)) (by omega) (i+1) rfl l h
   rw[if_neg h1]at h
   rw[if_neg (by simpa[xQ]using h1)]
   by_cases h2:dL s[i]=true
   ·rw[if_pos h2]at h ⊢
    have he:endOf bV s (i+1)=i+1+((s.data.toList.drop (i+1)).takeWhile bV).length:=rfl
    have hle:=(oH (p:=bV) (s:=s) (i:=i+1) hi)
    rw[<-X5,List.drop_drop,<-he]at h
    cases hr:eF (s.data.toList.drop (endOf bV s (i+1)))with
    | none=>rw[hr]at h;cases h
    | some l' =>
     rw[hr]at h
     obtain⟨ts,e1,e2⟩:=ih (s.size-endOf bV s (i+1)) (by omega) _ rfl l' hr
     rw[e1]
     refine⟨_,rfl,?_⟩
     simp only[Option.map_some,Option.some.injEq]at h
     rw[<-h,List.map_cons,e2]
     congr 1
     simp only[tk2,dh]
     rw[Qr _ _ _ (by omega),hd,he,show i+1+((s.data.toList.drop (i+1)).takeWhile bV).length-i=((s.data.toList.drop (i+1)).takeWhile bV).length+1 by omega,List.take_succ_cons,X4]
   rw[if_neg h2]at h ⊢
   by_cases h3:aP s[i]=true
   ·rw[if_pos h3]at h ⊢
    have he:endOf aP s (i+1)=i+1+((s.data.toList.drop (i+1)).takeWhile aP).length:=rfl
    have hle:=(oH (p:=aP) (s:=s) (i:=i+1) hi)
    split at h
    ·cases h
    ·rename_i h4
     rw[if_neg (by rw[he,show i+1+((s.data.toList.drop (i+1)).takeWhile aP).length-i=((s.data.toList.drop (i+1)).takeWhile aP).length+1 by omega];exact h4)]
     rw[<-X5,List.drop_drop,<-he]at h
     cases hr:eF (s.data.toList.drop (endOf aP s (i+1)))with
     | none=>rw[hr]at h;cases h
     | some l' =>
      rw[hr]at h
      obtain⟨ts,e1,e2⟩:=ih (s.size-endOf aP s (i+1)) (by omega) _ rfl l' hr
      rw[e1]
      refine⟨_,rfl,?_⟩
      simp only[Option.map_some,Option.some.injEq]at h
      rw[<-h,List.map_cons,e2]
      congr 1
      simp only[tk2,dh]
      rw[Qr _ _ _ (by omega),hd,he,show i+1+((s.data.toList.drop (i+1)).takeWhile aP).length-i=((s.data.toList.drop (i+1)).takeWhile aP).length+1 by omega,List.take_succ_cons,X4]
   rw[if_neg h3]at h ⊢
   by_cases h4:lI s[i]=true
   ·rw[if_pos h4]at h ⊢
    cases hr:eF (s.data.toList.drop (i+1))with
    | none=>rw[hr]at h;cases h
    | some l' =>
     rw[hr]at h
     obtain⟨ts,e1,e2⟩:=ih (s.size-(i+1)) (by omega) _ rfl l' hr
     rw[e1]
     refine⟨_,rfl,?_⟩
     simp only[Option.map_some,Option.some.injEq]at h
     rw[<-h,List.map_cons,e2]
     congr 1
     simp only[tk2,dh]
     rw[Qr _ _ _ (by omega),hd,show i+1-i=1 by omega]
     rfl
   ·rw[if_neg h4]at h;cases h
  ·rw[List.drop_eq_nil_of_le (by simpa using hi),eF]at h
   rw[dD,dif_neg hi]
   exact⟨[],rfl,by simpa using h⟩
def Edge (r:List UInt8):Prop:=∀b r',r=b::r'->bV b=false
theorem ad2:Edge []:=λ_ _ h=>by cases h
theorem GH {b:UInt8} {r:List UInt8} (h:bV b=false):Edge (b::r):=λc r' e=>by cases e;exact h
theorem Qs {p:UInt8->Bool}:∀{w r:List UInt8},(∀b∈w,p b=true)->(∀b r',r=b::r'->p b=false)->(w++r).takeWhile p=w/\(w++r).dropWhile p=r
 | [],[],_,_=>⟨rfl,rfl⟩
 | [],b::r,_,h=>by simp[h b r rfl]
 | c::w,r,hw,h=>by
  obtain⟨h1,h2⟩:=Qs (w:=w) (λb hb=>hw b (List.mem_cons_of_mem _ hb)) h;have hc:=hw c (List.mem_cons_self ..);simp[hc,h1,h2]
theorem ad3 {b:UInt8} (h:dL b=true):xQ b=false:=by
 simp only[dL,Bool.and_eq_true,decide_eq_true_eq]at h;simp only[xQ,Bool.or_eq_false_iff,beq_eq_false_iff_ne];constructor<;>(rintro rfl;revert h;decide)
theorem ad4 {b:UInt8} (h:aP b=true):xQ b=false/\dL b=false:=by
 simp only[aP,Bool.and_eq_true,decide_eq_true_eq]at h;refine⟨?_,?_⟩
 ·simp only[xQ,Bool.or_eq_false_iff,beq_eq_false_iff_ne];constructor<;>(rintro rfl;revert h;decide)
 ·simp only[dL,Bool.and_eq_false_iff,decide_eq_false_iff_not];left;omega
theorem ad5 {b:UInt8} {w r:List UInt8} (hb:dL b=true) (hw:∀c∈w,bV c=true) (he:Edge r):eF (b::w++r)=(eF r).map ((1,⟨(b::w).toArray⟩)::·):=by
 obtain⟨h1,h2⟩:=Qs (p:=bV) hw he;rw[List.cons_append,eF,if_neg (by rw[ad3 hb];simp),if_pos hb,h1,h2]
theorem ad6 {b:UInt8} {w r:List UInt8} (hb:aP b=true) (hw:∀c∈w,aP c=true) (he:Edge r) (hl:w.length+1<=6) (h0:w=[]\/b≠48):eF (b::w++r)=(eF r).map ((2,⟨(b::w).toArray⟩)::·):=by
 obtain⟨h1,h2⟩:=Qs (p:=aP) hw (λc r' e=>by
  have:=he c r' e;simp only[bV,Bool.or_eq_false_iff]at this;exact this.2)
 obtain⟨g1,g2⟩:=ad4 hb;rw[List.cons_append,eF,if_neg (by rw[g1];simp),if_neg (by rw[g2];simp),if_pos hb,h1,h2,if_neg];rintro(h|⟨h,h'⟩)
 ·omega
 ·rcases h0 with rfl|h0
  ·simp at h
  ·exact h0 h'
theorem BF (r:List UInt8):eF (32::r)=eF r:=by rw[eF,if_pos (by decide)]
theorem GI {b:UInt8} (r:List UInt8) (h1:xQ b=false) (h2:dL b=false) (h3:aP b=false) (h4:lI b=true):eF (b::r)=(eF r).map ((3,⟨#[b]⟩)::·):=by
 rw[eF,if_neg (by rw[h1];simp),if_neg (by rw[h2];simp),if_neg (by rw[h3];simp),if_pos h4]
def Tr.nodes:Tr->List Nd
 | .leaf n=>[n]
 | .seq a b=>a.nodes++b.nodes++[⟨15,0,⟨#[]⟩⟩]
 | .par a b=>a.nodes++b.nodes++[⟨16,0,⟨#[]⟩⟩]
def BG (n:Nd):Prop:=(n.kind=17/\n.value=0/\nameB n.name=true)\/gB n=true
def Tr.Good:Tr->Prop
 | .leaf n=>BG n
 | .seq a b=>a.Good/\b.Good
 | .par a b=>a.Good/\b.Good
def BH (n:Nd):List (Int×ByteArray):=if n.kind=17 then[(1,n.name)]else if n.kind=1\/n.kind=7\/n.kind=13 then[(1,word n.kind),(2,eG n.value)]else[(1,word n.kind)]
def wF (l:List (Int×ByteArray)) (c:Bool):List (Int×ByteArray):=if c then(3,⟨#[40]⟩)::(l++[(3,⟨#[41]⟩)])else l
def m_ (full:Bool):Tr->List (Int×ByteArray)
 | .leaf n=>BH n
 | .seq a b=>wF (m_ full a) (full&&(a.iP || a.iy))++(3,⟨#[59]⟩)::wF (m_ full b) (b.iP || full&&b.iy)
 | .par a b=>wF (m_ full a) (a.iP || full&&a.iy)++(3,⟨#[42]⟩)::wF (m_ full b) (b.iP || b.iy)
def xR (x:ByteArray):Bool:=match x.data.toList with
 | b::w=>dL b&&w.all bV
 | []=>false
theorem ad7:∀k:Fin 15,k.val=0\/(xR (word k.val)=true/\bg (word k.val)=k.val):=by decide
theorem Eb {k:Int} (h1:1<=k) (h2:k<=14):xR (word k)=true/\bg (word k)=k:=by
 have h:=ad7 ⟨k.toNat,by omega⟩;have e:((k.toNat:Nat):Int)=k:=by omega
 simp only[e]at h;rcases h with h|h
 ·omega
 ·exact h
theorem X6 {x:ByteArray} (h:xR x=true):∃b w,x.data.toList=b::w/\dL b=true/\(∀c∈w,bV c=true)/\x=⟨(b::w).toArray⟩:=by
 unfold xR at h;split at h
 ·rename_i b w e
  simp only[Bool.and_eq_true,List.all_eq_true]at h;refine⟨b,w,e,h.1,h.2,?_⟩;apply ByteArray.ext;apply Array.toList_inj.1;simpa using e
 ·cases h
theorem Qu {s:ByteArray} (h:nameB s=true):xR s=true/\bg s=17:=by
 unfold nameB at h;simp only[Bool.and_eq_true,decide_eq_true_eq]at h;refine⟨?_,h.2⟩;have h1:=h.1;unfold jq at h1;split at h1
 ·rename_i hs
  simp only[Bool.and_eq_true]at h1;have e:s.data.toList=s[0]'(by omega)::s.data.toList.drop 1:=by
   have:=List.drop_eq_getElem_cons (l:=s.data.toList) (i:=0) (by simp;omega);rw[List.drop_zero]at this;exact this
  unfold xR;rw[e];simp only[Bool.and_eq_true];exact⟨h1.1,h1.2⟩
 ·cases h1
theorem KE {v:Nat} (h:v<10):aP (UInt8.ofNat (48+v))=true/\((UInt8.ofNat (48+v)).toNat:Int)-48=v:=by
 have e:(UInt8.ofNat (48+v)).toNat=48+v:=by simp;omega
 unfold aP;rw[e];refine⟨?_,by omega⟩;simp only[Bool.and_eq_true,decide_eq_true_eq];omega
theorem Qv {v:Int} (h0:0<=v) (h:v<=96):(∃b w,(eG v).data.toList=b::w/\aP b=true/\(∀c∈w,aP c=true)/\w.length+1<=6/\(w=[]\/b≠48))/\jB (eG v)=v:=by
 have en:(eG v).data.toList=Lib.decDigits v.toNat:=by simp[eG]
 unfold jB;rw[en];by_cases h1:v.toNat<10
 ·rw[Lib.decDigits,dif_pos h1];obtain⟨g1,g2⟩:=KE h1;refine⟨⟨_,[],rfl,g1,by simp,by simp,.inl rfl⟩,?_⟩;simp only[List.foldl_cons,List.foldl_nil];omega
 ·rw[Lib.decDigits,dif_neg h1,Lib.decDigits,dif_pos (by omega)];obtain⟨g1,g2⟩:=KE (v:=v.toNat / 10) (by omega);obtain⟨g3,g4⟩:=KE (v:=v.toNat % 10) (by omega);refine⟨⟨_,_,rfl,g1,?_,by simp,.inr ?_⟩,?_⟩
  ·intro c hc;have hc':c∈[UInt8.ofNat (48+v.toNat % 10)]:=hc;rw[List.mem_singleton.1 hc'];exact g3
  ·intro e;rw[e]at g2;simp at g2;omega
  ·simp only[List.cons_append,List.nil_append,List.foldl_cons,List.foldl_nil];omega
theorem BG.cases {n:Nd} (h:BG n):(n.kind=17/\n=⟨17,0,n.name⟩/\xR n.name=true/\bg n.name=17) \/
  ((n.kind=1\/n.kind=7\/n.kind=13)/\n=⟨n.kind,n.value,⟨#[]⟩⟩/\0<=n.value/\n.value<=96)\/(1<=n.kind/\n.kind<=14/\¬(n.kind=1\/n.kind=7\/n.kind=13)/\n=⟨n.kind,0,⟨#[]⟩⟩):=by
 obtain⟨k,v,nm⟩:=n;rcases h with⟨h1,h2,h3⟩|h
 ·simp only at h1 h2 h3;subst h1 h2;exact .inl ⟨rfl,rfl,Qu h3⟩
 ·simp only[gB,Bool.and_eq_true,decide_eq_true_eq]at h;obtain⟨⟨⟨h0,h1⟩,h2⟩,h3⟩:=h;have hn:nm=⟨#[]⟩:=h0;subst hn;simp only at h1 h2 h3 ⊢;split at h3
  ·simp only[Bool.and_eq_true,decide_eq_true_eq]at h3;exact .inr (.inl ⟨by omega,by first|rfl|trivial,by omega,by omega⟩)
  ·split at h3
   ·simp only[Bool.and_eq_true,decide_eq_true_eq]at h3;exact .inr (.inl ⟨by omega,by first|rfl|trivial,by omega,by omega⟩)
   ·simp only[decide_eq_true_eq]at h3;subst h3;exact .inr (.inr ⟨h1,h2,by omega,by first|rfl|trivial⟩)
theorem ad8 {l l':List (Int×ByteArray)} {o:Option (List (Int×ByteArray))}:(o.map (l'++·)).map (l++·)=o.map ((l++l')++·):=by
 cases o<;>simp
theorem KF {x:ByteArray} {r:List UInt8} (h:xR x=true) (he:Edge r):eF (x.data.toList++r)=(eF r).map ([(1,x)]++·):=by
 obtain⟨b,w,e1,e2,e3,e4⟩:=X6 h;rw[e1,ad5 e2 e3 he,<-e4];rfl
theorem ad9 {v:Int} {r:List UInt8} (h0:0<=v) (h:v<=96) (he:Edge r):eF ((eG v).data.toList++r)=(eF r).map ([(2,eG v)]++·):=by
 obtain⟨⟨b,w,e1,e2,e3,e4,e5⟩,_⟩:=Qv h0 h;have e6:eG v=⟨(b::w).toArray⟩:=by
  apply ByteArray.ext;apply Array.toList_inj.1;simpa using e1
 rw[e1,ad6 e2 e3 he e4 e5,<-e6];rfl
theorem fV (a b:ByteArray):(a++b).data.toList=a.data.toList++b.data.toList:=by simp
theorem aea {n:Nd} {r:List UInt8} (h:BG n) (he:Edge r):eF ((jr n).data.toList++r)=(eF r).map (BH n++·):=by
 unfold jr BH;rcases h.cases with⟨h1,_,h2,_⟩|⟨h1,_,h2,h3⟩|⟨h1,h2,h3,_⟩
 ·rw[if_pos h1,if_pos h1];exact KF h2 he
 ·have hk:¬n.kind=17:=by omega
  rw[if_neg hk,if_neg hk,if_pos h1,if_pos h1,fV,fV,List.append_assoc,List.append_assoc];rw[KF (Eb (by omega) (by omega)).1 (by exact GH (by decide))];rw[show iH.data.toList++((eG n.value).data.toList++r)=32::((eG n.value).data.toList++r)from rfl,BF,ad9 h2 h3 he,ad8];rfl
 ·have hk:¬n.kind=17:=by omega
  rw[if_neg hk,if_neg hk,if_neg h3,if_neg h3];exact KF (Eb h1 h2).1 he
theorem KG {s:ByteArray} {l:List (Int×ByteArray)} (h:∀r,Edge r->eF (s.data.toList++r)=(eF r).map (l++·)) (c:Bool) (r:List UInt8) (he:Edge r):eF ((brk s c).data.toList++r)=(eF r).map (wF l c++·):=by
 cases c
 ·exact h r he
 ·show eF ((GK++s++GL).data.toList++r)=_;rw[fV,fV,List.append_assoc,List.append_assoc];rw[show GK.data.toList++(s.data.toList++(GL.data.toList++r))=40::(s.data.toList++(41::r))from rfl];rw[GI _ (by decide) (by decide) (by decide) (by decide),h _ (GH (by decide)),GI _ (by decide) (by decide) (by decide) (by decide)];unfold wF;cases eF r<;>simp
theorem GN (full:Bool):∀(t:Tr),t.Good->∀r,Edge r->eF ((aV full t).data.toList++r)=(eF r).map (m_ full t++·)
 | .leaf n,h,r,he=>aea h he
 | .seq a b,h,r,he=>by
  have ha:=KG (GN full a h.1) (full&&(a.iP || a.iy));have hb:=KG (GN full b h.2) (b.iP || full&&b.iy);rw[aV,fV,fV,List.append_assoc,List.append_assoc];rw[ha _ (by exact GH (by decide))];rw[show ∀l:List UInt8,BI.data.toList++l=32::59::32::l from λ_=>rfl];rw[BF,GI _ (by decide) (by decide) (by decide) (by decide),BF,hb r he,m_];cases eF r<;>simp
 | .par a b,h,r,he=>by
  have ha:=KG (GN full a h.1) (a.iP || full&&a.iy);have hb:=KG (GN full b h.2) (b.iP || b.iy);rw[aV,fV,fV,List.append_assoc,List.append_assoc];rw[ha _ (by exact GH (by decide))];rw[show ∀l:List UInt8,BJ.data.toList++l=32::42::32::l from λ_=>rfl];rw[BF,GI _ (by decide) (by decide) (by decide) (by decide),BF,hb r he,m_];cases eF r<;>simp
theorem GR {t:Tk} {r:List Tk} {b:UInt8} {x:Int×ByteArray} (h:tk2 t=x):bI (t::r) b=(decide (x.1=3)&&decide (x.2=⟨#[b]⟩)):=by
 subst h;rfl
theorem KH (f:Nat) (ts:List Tk) (out:Rd) (h:bI ts 42=false):jl f ts out=⟨false,ts,out⟩:=by
 cases f with
 | zero=>rw[jl.eq_def];simp only;rw[h]
 | succ f=>rw[jl.eq_def];simp only;rw[if_neg (by rw[h];simp)]
theorem X7 (f:Nat) (ts:List Tk) (out:Rd) (h:bI ts 59=false):jm f ts out=⟨false,ts,out⟩:=by
 cases f with
 | zero=>rw[jm.eq_def];simp only;rw[h]
 | succ f=>rw[jm.eq_def];simp only;rw[if_neg (by rw[h];simp)]
theorem row_of {f:Nat} {ts r:List Tk} {out o:Rd} (h:bQ f ts out=⟨false,r,o⟩):fU f ts out=jl f r o:=by rw[fU.eq_def,h]
theorem Qw {f:Nat} {ts r:List Tk} {out o:Rd} (h:fU f ts out=⟨false,r,o⟩):fQ f ts out=jm f r o:=by rw[fQ.eq_def,h]
theorem aeb {f:Nat} {u:Tk} {ts r:List Tk} {out o:Rd} (hu:bI (u::ts) 42=true) (h:bQ f ts out=⟨false,r,o⟩):jl (f+1) (u::ts) out=jl f r (o++[(⟨16,0,⟨#[]⟩⟩,u.pos)]):=by
 conv=>lhs;rw[jl.eq_def]
 simp only;rw[if_pos hu,List.tail_cons,h];rfl
theorem aec {f:Nat} {u:Tk} {ts r:List Tk} {out o:Rd} (hu:bI (u::ts) 59=true) (h:fU f ts out=⟨false,r,o⟩):jm (f+1) (u::ts) out=jm f r (o++[(⟨15,0,⟨#[]⟩⟩,u.pos)]):=by
 conv=>lhs;rw[jm.eq_def]
 simp only;rw[if_pos hu,List.tail_cons,h];rfl
theorem aed {f:Nat} {u v:Tk} {ts r:List Tk} {out o:Rd} (hu:bI (u::ts) 40=true) (h:fQ f ts out=⟨false,v::r,o⟩) (hv:bI (v::r) 41=true):bQ (f+1) (u::ts) out=⟨false,r,o⟩:=by
 rw[bQ.eq_def];simp only;rw[if_pos hu,List.tail_cons,h];simp only;rw[if_pos hv];rfl
theorem KI {ts:List Tk} {x:Int×ByteArray} (h:ts.map tk2=[x]):∃t,ts=[t]/\t.kind=x.1/\t.text=x.2:=by
 match ts,h with
 | [t],h=>simp only[List.map_cons,List.map_nil,List.cons.injEq,and_true]at h;subst h;exact⟨t,rfl,rfl,rfl⟩
theorem aee {ts:List Tk} {x y:Int×ByteArray} (h:ts.map tk2=[x,y]):∃t u,ts=[t,u]/\(t.kind=x.1/\t.text=x.2)/\u.kind=y.1/\u.text=y.2:=by
 obtain⟨t,r,rfl,e,h'⟩:=List.map_eq_cons_iff.1 h;obtain⟨u,rfl,e1,e2⟩:=KI h';subst e;exact⟨t,u,rfl,⟨rfl,rfl⟩,e1,e2⟩
theorem X8 {f:Nat} {t:Tk} {r:List Tk} {out:Rd} (hk:t.kind=1) (hn:¬(bg t.text=1\/bg t.text=7\/bg t.text=13)):bQ (f+1) (t::r) out=⟨false,r,out++[(jI t.text,t.pos)]⟩:=by
 rw[bQ.eq_def];simp only;rw[if_neg (by simp[bI,hk]),if_pos hk,if_neg hn]
theorem aef {f:Nat} {t u:Tk} {r:List Tk} {out:Rd} (hk:t.kind=1) (hn:bg t.text=1\/bg t.text=7\/bg t.text=13) (hu:u.kind=2):bQ (f+1) (t::u::r) out=⟨false,r,out++[(⟨bg t.text,jB u.text,⟨#[]⟩⟩,t.pos)]⟩:=by
 rw[bQ.eq_def];simp only;rw[if_neg (by simp[bI,hk]),if_pos hk,if_pos hn,if_pos hu]
theorem X9 {n:Nd} (h:BG n) {ts:List Tk} (ht:ts.map tk2=BH n) (f:Nat) (rest:List Tk) (out:Rd):∃o:Rd,o.map Prod.fst=[n]/\1<=ts.length/\bQ (f+1) (ts++rest) out=⟨false,rest,out++o⟩:=by
 unfold BH at ht;rcases h.cases with⟨h1,h2,h3,h4⟩|⟨h1,h2,h3,h4⟩|⟨h1,h2,h3,h4⟩
 ·rw[if_pos h1]at ht;obtain⟨t,rfl,e1,e2⟩:=KI ht;simp only at e1 e2;refine⟨[(jI t.text,t.pos)],?_,by simp,?_⟩
  ·rw[h2];simp only[List.map_cons,List.map_nil,jI,e2,h4];rfl
  ·exact X8 e1 (by rw[e2,h4];decide)
 ·have hk:¬n.kind=17:=by omega
  rw[if_neg hk,if_pos h1]at ht;obtain⟨t,u,rfl,⟨e1,e2⟩,e3,e4⟩:=aee ht;simp only at e1 e2 e3 e4;have hw:=(Eb (k:=n.kind) (by omega) (by omega)).2;refine⟨[(⟨bg t.text,jB u.text,⟨#[]⟩⟩,t.pos)],?_,by simp,?_⟩
  ·simp only[List.map_cons,List.map_nil];rw[e2,e4,hw,(Qv h3 h4).2,<-h2]
  ·exact aef e1 (by rw[e2,hw];exact h1) e3
 ·have hk:¬n.kind=17:=by omega
  rw[if_neg hk,if_neg h3]at ht;obtain⟨t,rfl,e1,e2⟩:=KI ht;simp only at e1 e2;have hw:=(Eb (k:=n.kind) (by omega) (by omega)).2;refine⟨[(jI t.text,t.pos)],?_,by simp,?_⟩
  ·rw[h4];simp only[List.map_cons,List.map_nil,jI,e2,hw];rw[if_neg (by omega)]
  ·exact X8 e1 (by rw[e2,hw];exact h3)
def Qx (full:Bool) (t:Tr):Prop:=∀(ts:List Tk),ts.map tk2=m_ full t->∀(f:Nat) (rest:List Tk) (out:Rd),ts.length<=f->bI rest 42=false ->
 ∃(o:Rd) (k:Nat),o.map Prod.fst=t.nodes/\k+1<=ts.length/\fQ f (ts++rest) out=jm (f-k) rest (out++o)
def KJ (full:Bool) (t:Tr):Prop:=∀(ts:List Tk),ts.map tk2=m_ full t->∀(f:Nat) (rest:List Tk) (out:Rd),ts.length<=f ->
 ∃(o:Rd) (k:Nat),o.map Prod.fst=t.nodes/\k+1<=ts.length/\fU f (ts++rest) out=jl (f-k) rest (out++o)
theorem Qy {full:Bool} {t:Tr} (hT:Qx full t) (ts:List Tk) (ht:ts.map tk2=wF (m_ full t) true) (f:Nat) (rest:List Tk) (out:Rd) (hf:ts.length<=f) :
  ∃o:Rd,o.map Prod.fst=t.nodes/\1<=ts.length/\bQ f (ts++rest) out=⟨false,rest,out++o⟩:=by
 unfold wF at ht;rw[if_pos rfl]at ht;match ts,ht with
 | u::ts',ht =>
  rw[List.map_cons,List.cons.injEq]at ht
  obtain⟨hu,ht⟩:=ht
  obtain⟨t1,t2,e,e1,e2⟩:=List.map_eq_append_iff.1 ht
  obtain⟨v,rfl,e3,e4⟩:=KI e2
  subst e
  simp only[List.length_cons,List.length_append,List.length_nil]at hf
  obtain⟨g,rfl⟩:∃g,f=g+1:=⟨f-1,by omega⟩
  have hv:∀r:List Tk,bI (v::r) 41=true:=λr=>by simp only at e3 e4;simp[bI,e3,e4]
  have hv2:∀(r:List Tk) (b:UInt8),b≠41->bI (v::r) b=false:=λr b hb=>by
   simp only at e3 e4;simp only[bI,e3,e4,Bool.and_eq_false_iff,decide_eq_false_iff_not];right;intro hh;apply hb;have:=congrArg (λz:ByteArray=>z.data.toList) hh;simpa using this.symm
  obtain⟨o,k,h1,h2,h3⟩:=hT t1 e1 g (v::rest) out (by omega) (hv2 rest 42 (by decide))
  refine⟨o,h1,by simp,?_⟩
  have hs:fQ g (t1++v::rest) out=⟨false,v::rest,out++o⟩:=by rw[h3,X7 _ _ _ (hv2 rest 59 (by decide))]
  rw[show(u::(t1++[v]))++rest=u::(t1++v::rest)by simp]
  exact aed (by rw[GR hu];decide) hs (hv rest)
theorem X_ {full:Bool} {t:Tr} (hT:Qx full t) (c:Bool) (hR:c=false->KJ full t) (ts:List Tk) (ht:ts.map tk2=wF (m_ full t) c) (f:Nat) (rest:List Tk) (out:Rd) (hf:ts.length<=f) :
  ∃(o:Rd) (k:Nat),o.map Prod.fst=t.nodes/\k+1<=ts.length/\fU f (ts++rest) out=jl (f-k) rest (out++o):=by
 cases c with
 | false=>exact hR rfl ts ht f rest out hf
 | true =>
  obtain⟨o,h1,h2,h3⟩:=Qy hT ts ht f rest out hf
  exact⟨o,0,h1,by omega,row_of h3⟩
theorem aeg {t:Tr} (h1:t.iP=false) (h2:t.iy=false):∃n,t=.leaf n:=by
 cases t with
 | leaf n=>exact⟨n,rfl⟩
 | seq a b=>cases h1
 | par a b=>cases h2
theorem GU (full:Bool):∀(t:Tr),t.Good->Qx full t/\(t.iP=false->KJ full t)
 | .leaf n,h=>by
  have hR:KJ full (.leaf n):=λts ht f rest out hf=>by
   have hl:1<=ts.length:=by
    have:=congrArg List.length ht;simp only[List.length_map,m_,BH]at this;split at this
    ·simp at this;omega
    ·split at this<;>(simp at this;omega)
   obtain⟨g,rfl⟩:∃g,f=g+1:=⟨f-1,by omega⟩
   obtain⟨o,h1,_,h3⟩:=X9 h ht g rest out;exact⟨o,0,h1,by omega,row_of h3⟩
  refine⟨λts ht f rest out hf hr=>?_,λ_=>hR⟩;obtain⟨o,k,h1,h2,h3⟩:=hR ts ht f rest out hf;exact⟨o,0,h1,by omega,Qw (by rw[h3,KH _ _ _ hr])⟩
 | .par a b,h=>by
  obtain⟨hTa,Ya⟩:=GU full a h.1;obtain⟨Qz,hRb⟩:=GU full b h.2;have hR:KJ full (.par a b):=λts ht f rest out hf=>by
   rw[m_]at ht;obtain⟨ta,t2,e,ea,e2⟩:=List.map_eq_append_iff.1 ht;match t2,e2 with
   | u::tb,e2 =>
    rw[List.map_cons,List.cons.injEq]at e2
    obtain⟨hu,eb⟩:=e2
    subst e
    simp only[List.length_append,List.length_cons]at hf
    obtain⟨oa,k,h1,h2,h3⟩:=X_ hTa _ (λhc=>Ya (by simp only[Bool.or_eq_false_iff]at hc;exact hc.1)) ta ea f (u::(tb++rest)) out (by omega)
    obtain⟨g,hg⟩:∃g,f-k=g+1:=⟨f-k-1,by omega⟩
    have hpb:∃ob:Rd,ob.map Prod.fst=b.nodes/\1<=tb.length/\bQ g (tb++rest) (out++oa)=⟨false,rest,out++oa++ob⟩:=by
     cases hc:(b.iP || b.iy)with
     | true=>rw[hc]at eb;exact Qy Qz tb eb g rest _ (by omega)
     | false =>
      rw[hc]at eb
      simp only[Bool.or_eq_false_iff]at hc
      obtain⟨n,rfl⟩:=aeg hc.1 hc.2
      have hl:1<=tb.length:=by
       have:=congrArg List.length eb;simp only[List.length_map,wF,m_,BH]at this;split at this
       ·simp at this;omega
       ·split at this
        ·simp at this;omega
        ·split at this<;>(simp at this;omega)
      obtain⟨g',rfl⟩:∃g',g=g'+1:=⟨g-1,by omega⟩
      exact X9 h.2 eb g' rest _
    obtain⟨ob,h4,h5,h6⟩:=hpb
    refine⟨oa++ob++[(⟨16,0,⟨#[]⟩⟩,u.pos)],k+1,?_,by simp;omega,?_⟩
    ·simp[h1,h4,Tr.nodes]
    ·rw[show(ta++u::tb)++rest=ta++u::(tb++rest)by simp,h3,hg,aeb (by rw[GR hu];decide) h6]
     rw[show f-(k+1)=g by omega]
     simp
  refine⟨λts ht f rest out hf hr=>?_,λ_=>hR⟩;obtain⟨o,k,h1,h2,h3⟩:=hR ts ht f rest out hf;exact⟨o,0,h1,by omega,Qw (by rw[h3,KH _ _ _ hr])⟩
 | .seq a b,h=>by
  obtain⟨hTa,Ya⟩:=GU full a h.1;obtain⟨Qz,hRb⟩:=GU full b h.2;refine⟨λts ht f rest out hf hr=>?_,λhc=>by cases hc⟩;rw[m_]at ht;obtain⟨ta,t2,e,ea,e2⟩:=List.map_eq_append_iff.1 ht;match t2,e2 with
  | u::tb,e2 =>
   rw[List.map_cons,List.cons.injEq]at e2
   obtain⟨hu,eb⟩:=e2
   subst e
   simp only[List.length_append,List.length_cons]at hf
   have Yb:bI (u::(tb++rest)) 42=false:=by rw[GR hu];decide
   have hta:∃(oa:Rd) (k:Nat),oa.map Prod.fst=a.nodes/\k+1<=ta.length/\fQ f (ta++u::(tb++rest)) out=jm (f-k) (u::(tb++rest)) (out++oa):=by
    cases hc:(full&&(a.iP || a.iy))with
    | false=>rw[hc]at ea;exact hTa ta ea f _ out (by omega) Yb
    | true =>
     rw[hc]at ea
     obtain⟨o,h1,h2,h3⟩:=Qy hTa ta ea f (u::(tb++rest)) out (by omega)
     exact⟨o,0,h1,by omega,Qw (by rw[row_of h3,KH _ _ _ Yb])⟩
   obtain⟨oa,k,h1,h2,h3⟩:=hta
   obtain⟨g,hg⟩:∃g,f-k=g+1:=⟨f-k-1,by omega⟩
   obtain⟨ob,k2,h4,h5,h6⟩:=X_ Qz _ (λhc=>hRb (by simp only[Bool.or_eq_false_iff]at hc;exact hc.1)) tb eb g rest (out++oa) (by omega)
   refine⟨oa++ob++[(⟨15,0,⟨#[]⟩⟩,u.pos)],k+1,?_,by simp;omega,?_⟩
   ·simp[h1,h4,Tr.nodes]
   ·rw[show(ta++u::tb)++rest=ta++u::(tb++rest)by simp,h3,hg,aec (by rw[GR hu];decide) (by rw[h6,KH _ _ _ hr])]
    rw[show f-(k+1)=g by omega]
    simp
def Ec (ts:List Tr):List Nd:=(ts.reverse.map Tr.nodes).flatten
theorem BK (t:Tr) (ts:List Tr):Ec (t::ts)=Ec ts++t.nodes:=by simp[Ec]
theorem aeh {L:List Df} (hN:∀d∈L,nameB d.name=true) {n:Nd} {x:W2} (h:aO L n=some x):BG n:=by
 unfold aO at h;split at h
 ·rename_i hk
  split at h
  ·rename_i hv
   cases hf:findD L n.name with
   | none=>rw[hf]at h;cases h
   | some d =>
    unfold findD at hf
    have h1:=List.mem_of_find?_eq_some hf
    have h2:=List.find?_some hf
    simp only[decide_eq_true_eq]at h2
    exact .inl ⟨hk,hv,by rw[<-h2];exact hN d h1⟩
  ·cases h
 ·split at h
  ·rename_i hl;exact .inr hl
  ·cases h
theorem aei {n:Nd} (h:n.value=0/\n.name=ByteArray.empty):n=⟨n.kind,0,⟨#[]⟩⟩:=by
 obtain⟨k,v,nm⟩:=n;simp only at h;obtain⟨rfl,rfl⟩:=h;rfl
theorem KL {L:List Df} (hN:∀d∈L,nameB d.name=true):∀(ns:List Nd) (st st':List W2) (ts:List Tr),bU (aO L) ns st=some st'->ts.length=st.length->(∀t∈ts,t.Good) ->
  ∃ts',bZ ns ts=some ts'/\ts'.length=st'.length/\(∀t∈ts',t.Good)/\Ec ts'=Ec ts++ns
 | [],st,st',ts,h,hl,ho=>by
  simp only[bU,Option.some.injEq]at h;subst h;exact⟨ts,rfl,hl,ho,by simp⟩
 | n::r,st,st',ts,h,hl,ho=>by
  by_cases hk:n.kind=15\/n.kind=16
  ·unfold bU at h;rw[if_pos hk]at h;split at h
   ·rename_i hop
    have hn:=aei hop;split at h
    ·rename_i b a st0
     split at h
     ·rename_i x hx
      match ts,hl,ho with
      | tb::ta::GV,hl,ho =>
       have hta:ta.Good:=ho ta (by simp)
       have htb:tb.Good:=ho tb (by simp)
       rcases hk with hk|hk
       ·rw[Ed hk]
        obtain⟨ts',h1,h2,h3,h4⟩:=KL hN r _ st' (.seq ta tb::GV) h (by simp at hl ⊢;omega) (by
         intro t ht;rcases List.mem_cons.1 ht with rfl|ht
         ·exact⟨hta,htb⟩
         ·exact ho t (by simp[ht]))
        refine⟨ts',h1,h2,h3,?_⟩
        rw[h4,BK,BK,BK,Tr.nodes,hn,hk]
        simp
       ·rw[Ee hk]
        obtain⟨ts',h1,h2,h3,h4⟩:=KL hN r _ st' (.par ta tb::GV) h (by simp at hl ⊢;omega) (by
         intro t ht;rcases List.mem_cons.1 ht with rfl|ht
         ·exact⟨hta,htb⟩
         ·exact ho t (by simp[ht]))
        refine⟨ts',h1,h2,h3,?_⟩
        rw[h4,BK,BK,BK,Tr.nodes,hn,hk]
        simp
     ·cases h
    ·cases h
   ·cases h
  ·unfold bU at h;rw[if_neg hk]at h;split at h
   ·rename_i x hx
    rw[Ef hk];obtain⟨ts',h1,h2,h3,h4⟩:=KL hN r _ st' (.leaf n::ts) h (by simp;omega) (by
     intro t ht;rcases List.mem_cons.1 ht with rfl|ht
     ·exact aeh hN hx
     ·exact ho t ht)
    refine⟨ts',h1,h2,h3,?_⟩;rw[h4,BK,Tr.nodes];simp
   ·cases h
theorem QA {leaf:Nd->Option W2}:∀(r:Rd) (i:Nat) (st st':List W2),bU leaf (r.map Prod.fst) st=some st'->i+r.length<=400->dG leaf r i st=none
 | [],_,_,_,_,_=>rfl
 | x::r,i,st,st',h,hl=>by
  have hi:¬400<=i:=by simp at hl;omega
  rw[List.map_cons]at h;unfold bU at h;by_cases hk:x.1.kind=15\/x.1.kind=16
  ·rw[if_pos hk]at h;split at h
   ·split at h
    ·split at h
     ·rename_i w hj
      rw[CX hi hk hj];exact QA r (i+1) _ st' h (by simp at hl;omega)
     ·cases h
    ·cases h
   ·cases h
  ·rw[if_neg hk]at h;split at h
   ·rename_i w hw
    rw[CY hi hk hw];exact QA r (i+1) _ st' h (by simp at hl;omega)
   ·cases h
end Go.Proofs.YtikgblkfmpecfaaGreatDoor
