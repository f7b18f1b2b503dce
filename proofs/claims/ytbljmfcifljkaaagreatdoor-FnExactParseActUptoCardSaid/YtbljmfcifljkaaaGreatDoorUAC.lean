/-
  Acts of a session: their texts, and what texts are read as. No program in sight. Own work.
-/
import Derived.Test.YtbljmfcifljkaaaGreatDoorULW
import Derived.Test.YtbljmfcifljkaaaGreatDoorURU
import Derived.Test.YtbljmfcifljkaaaGreatDoorUT
import Derived.Test.YtbljmfcifljkaaaGreatDoorUAA
import Derived.Lib.AtoiAll
import Derived.Lib.AtoiTie
import Derived.Test.YtbljmfcifljkaaaGreatDoorUSA
import Derived.Lib.Split
set_option linter.all false
set_option maxRecDepth 100000
set_option maxHeartbeats 8000000
namespace Go.Proofs.YtbljmfcifljkaaaGreatDoor
structure AcI where
 kind:Int
 rule:Int
 place:Int
 deriving DecidableEq
def acWords:List ByteArray:=[⟨#[]⟩,⟨#[114,117,108,101]⟩,⟨#[98,97,99,107]⟩,⟨#[115,105,109,112,108,105,102,121]⟩,⟨#[117,110,100,111]⟩,⟨#[114,101,100,111]⟩,⟨#[114,101,115,101,116]⟩]
def acWord (k:Nat):ByteArray:=acWords.getD k ⟨#[]⟩
def acText (ns:List ByteArray) (x:AcI):Option ByteArray :=
 if inB x.kind 1 6 then
  if x.kind≤2 then
   if inB x.rule 0 ((ns.length:Int) - 1) && inB x.place 0 999 then some (acWord x.kind.toNat ++ bSp ++ ns.getD x.rule.toNat ⟨#[]⟩ ++ bSp ++ numT x.place) else none
  else if decide (x.rule=0) && decide (x.place=0) then some (acWord x.kind.toNat) else none
 else none
def joinB (b:UInt8):List (List UInt8) → List UInt8
 | []=>[]
 | [p]=>p
 | p :: q :: r=>p ++ b :: joinB b (q :: r)
theorem join_cons (b:UInt8) (p:List UInt8) {l:List (List UInt8)} (h:l ≠ []):joinB b (p :: l)=p ++ b :: joinB b l:=by
 cases l with
 | nil=>exact absurd rfl h
 | cons q r=>rfl
theorem join_split (b:UInt8):∀ (l acc:List UInt8),joinB b (splitB b acc l)=acc ++ l
 | [],acc=>by simp [splitB,joinB]
 | c :: r,acc=>by
  unfold splitB
  split
  ·rename_i h
   subst h
   rw [join_cons _ _ (splitB_ne c r []),join_split c r []];rfl
  ·rw [join_split b r (acc ++ [c])];simp
theorem split_join (b:UInt8):∀ (ps:List (List UInt8)),ps ≠ [] → (∀ p ∈ ps,b ∉ p) → splitB b [] (joinB b ps)=ps
 | [],h,_=>absurd rfl h
 | [p],_,h=>by
  show splitB b [] p=[p]
  rw [splitB_none b p [] (h p (by simp))];rfl
 | p :: q :: r,_,h=>by
  show splitB b [] (p ++ b :: joinB b (q :: r))=_
  rw [splitB_some b _ p _ [] rfl (h p (by simp)),split_join b (q :: r) (by simp) (fun x hx=>h x (by simp [hx]))];rfl
def parts (s:ByteArray):List (List UInt8):=splitB 32 [] s.data.toList
theorem parts_inj {s t:ByteArray} (h:parts s=parts t):s=t:=by
 have h2:=congrArg (joinB 32) h
 unfold parts at h2
 rw [join_split,join_split] at h2
 have h3:s.data.toList=t.data.toList:=h2
 cases s;cases t
 simp only [ByteArray.mk.injEq]
 exact Array.toList_inj.1 h3
theorem parts_one {s:ByteArray} (h:32 ∉ s.data.toList):parts s=[s.data.toList]:=by unfold parts;rw [splitB_none _ _ _ h];rfl
theorem app_list (a b:ByteArray):(a ++ b).data.toList=a.data.toList ++ b.data.toList:=by simp
theorem parts_three {a b c:ByteArray} (ha:32 ∉ a.data.toList) (hb:32 ∉ b.data.toList) (hc:32 ∉ c.data.toList):parts (a ++ bSp ++ b ++ bSp ++ c)=[a.data.toList,b.data.toList,c.data.toList]:=by
 have h:=split_join 32 [a.data.toList,b.data.toList,c.data.toList] (by simp) (by intro p hp;simp at hp;rcases hp with rfl|rfl|rfl <;> assumption)
 unfold parts
 rw [← h]
 congr 1
 simp only [app_list,joinB,show bSp.data.toList=[32] from rfl,List.append_assoc,List.singleton_append,List.cons_append,List.nil_append]
theorem parts_ne (s:ByteArray):parts s ≠ []:=splitB_ne _ _ _
def rdA (s:ByteArray):Int:=if (s.data.toList.all digB && decide (1≤s.size))=true then rdV s else -1
def atV (l:List UInt8):Int:=match Lib.atoiAll l with
 | .ok v=>v
 | .range=>Lib.atoiSat l
 | _=>0
theorem digB_iff {b:UInt8}:digB b=true ↔ 48≤b.toNat∧b.toNat≤57:=by unfold digB;simp;omega
theorem dec1 {n:Nat} (h:n<10):Lib.decDigits n=[UInt8.ofNat (48+n)]:=by rw [Lib.decDigits,dif_pos h]
theorem dec2 {n:Nat} (h1:10≤n) (h:n<100):Lib.decDigits n=[UInt8.ofNat (48+n / 10),UInt8.ofNat (48+n % 10)]:=by
 rw [Lib.decDigits,dif_neg (by omega),dec1 (by omega)];rfl
theorem dec3 {n:Nat} (h1:100≤n) (h:n<1000):Lib.decDigits n=[UInt8.ofNat (48+n / 10 / 10),UInt8.ofNat (48+n / 10 % 10),UInt8.ofNat (48+n % 10)]:=by
 rw [Lib.decDigits,dif_neg (by omega),dec2 (by omega) (by omega)];rfl
theorem ofNat_dig {b:UInt8} {n:Nat} (h:48+n=b.toNat):UInt8.ofNat (48+n)=b:=by
 rw [h];simp
theorem toNat_dig {n:Nat} (h:n<10):(UInt8.ofNat (48+n)).toNat=48+n:=by rw [UInt8.toNat_ofNat'];omega
theorem numT_list (v:Int):(numT v).data.toList=Lib.decDigits v.toNat:=by simp [numT]
theorem rdA_of {s:ByteArray} (h1:s.data.toList.all digB=true) (h2:1≤s.size) (h3:s.size≤6) (h4:s.size=1∨s.data.toList.headD 0 ≠ 48):rdA s=numV s:=by
 unfold rdA rdV rdOk
 have e:(s.data.toList.all digB && decide (1≤s.size))=true:=by rw [h1,decide_eq_true h2];rfl
 rw [if_pos e,if_pos]
 rw [decide_eq_true h3]
 rcases h4 with h4|h4
 ·rw [decide_eq_false (show ¬ 1<s.size by omega)];rfl
 ·rw [decide_eq_false h4];simp
theorem size_list (s:ByteArray):s.size=s.data.toList.length:=by rw [Array.length_toList];rfl
theorem num_rd {v:Int} (h0:0≤v) (h:v≤999):rdA (numT v)=v∧(numT v).data.toList.all digB=true∧1≤(numT v).size∧(numT v).size≤3:=by
 have hl:=numT_list v
 have hs:=size_list (numT v)
 obtain ⟨n,rfl⟩:∃ n:Nat,v=n:=⟨v.toNat,by omega⟩
 simp only [Int.toNat_natCast] at hl
 have key:∀ L:List UInt8,Lib.decDigits n=L → L.all digB=true → 1≤L.length → L.length≤3 → (L.length=1∨L.headD 0 ≠ 48) → L.foldl (fun n b=>10 * n+((b.toNat:Int) - 48)) 0=n → rdA (numT n)=n∧(numT n).data.toList.all digB=true∧1≤(numT n).size∧(numT n).size≤3:=by
  intro L hL g1 g2 g3 g4 g5
  rw [hL] at hl
  rw [hl] at hs ⊢
  refine ⟨?_,g1,by omega,by omega⟩
  rw [rdA_of (by rw [hl];exact g1) (by omega) (by omega) (by rw [hl];rcases g4 with g4|g4;exact .inl (by omega);exact .inr g4)]
  unfold numV
  rw [hl];exact g5
 by_cases a1:n<10
 ·have t1:=toNat_dig a1
  exact key _ (dec1 a1) (by simp only [List.all_cons,List.all_nil,Bool.and_true];exact digB_iff.2 (by omega)) (by simp) (by simp) (by simp) (by simp only [List.foldl_cons,List.foldl_nil];omega)
 ·by_cases a2:n<100
  ·have t1:=toNat_dig (n:=n / 10) (by omega)
   have t2:=toNat_dig (n:=n % 10) (by omega)
   refine key _ (dec2 (by omega) a2) ?_ (by simp) (by simp) (.inr ?_) ?_
   ·simp only [List.all_cons,List.all_nil,Bool.and_true,Bool.and_eq_true];exact ⟨digB_iff.2 (by omega),digB_iff.2 (by omega)⟩
   ·intro e
    have:=congrArg UInt8.toNat (show UInt8.ofNat (48+n / 10)=48 from e)
    rw [t1] at this
    have h48:(48:UInt8).toNat=48:=rfl
    omega
   ·simp only [List.foldl_cons,List.foldl_nil];omega
  ·have t1:=toNat_dig (n:=n / 10 / 10) (by omega)
   have t2:=toNat_dig (n:=n / 10 % 10) (by omega)
   have t3:=toNat_dig (n:=n % 10) (by omega)
   refine key _ (dec3 (by omega) (by omega)) ?_ (by simp) (by simp) (.inr ?_) ?_
   ·simp only [List.all_cons,List.all_nil,Bool.and_true,Bool.and_eq_true];exact ⟨digB_iff.2 (by omega),digB_iff.2 (by omega),digB_iff.2 (by omega)⟩
   ·intro e
    have:=congrArg UInt8.toNat (show UInt8.ofNat (48+n / 10 / 10)=48 from e)
    rw [t1] at this
    have h48:(48:UInt8).toNat=48:=rfl
    omega
   ·simp only [List.foldl_cons,List.foldl_nil];omega
theorem num_free {v:Int} (h0:0≤v) (h:v≤999):32 ∉ (numT v).data.toList:=by
 obtain ⟨-,h1,-⟩:=num_rd h0 h
 intro hm
 have:=List.all_eq_true.1 h1 _ hm
 exact absurd this (by decide)
theorem rd_num {s:ByteArray} (h0:0≤rdA s) (h:rdA s≤999):numT (rdA s)=s:=by
 obtain ⟨L,hL⟩:∃ L,s.data.toList=L:=⟨_,rfl⟩
 have hs:=size_list s
 rw [hL] at hs
 have h0':=h0
 unfold rdA at h0'
 split at h0'
 ·rename_i h1
  rw [Bool.and_eq_true,decide_eq_true_iff] at h1
  obtain ⟨h1,h2⟩:=h1
  unfold rdV at h0'
  split at h0'
  ·rename_i h3
   unfold rdOk at h3
   rw [Bool.and_eq_true,decide_eq_true_iff,Bool.not_eq_true',Bool.and_eq_false_iff,decide_eq_false_iff_not,decide_eq_false_iff_not] at h3
   obtain ⟨h3,h4⟩:=h3
   have h5:rdA s=numV s:=rdA_of h1 h2 h3 (by rcases h4 with h4|h4;exact .inl (by omega);exact .inr h4)
   rw [h5] at h0 h ⊢
   have hd:∀ b ∈ L,48≤b.toNat∧b.toNat≤57:=fun b hb=>digB_iff.1 (List.all_eq_true.1 h1 b (by rw [hL];exact hb))
   have hhd:L.length=1∨L.headD 0 ≠ 48:=by rw [← hL];rw [hL,← hs];rcases h4 with h4|h4;exact .inl (by omega);exact .inr (by rw [← hL];exact h4)
   have hv:numV s=L.foldl (fun n b=>10 * n+((b.toNat:Int) - 48)) 0:=by unfold numV;rw [hL]
   have fin:∀ n:Nat,numV s=n → Lib.decDigits n=L → numT (numV s)=s:=by
    intro n e1 e2
    rw [e1]
    have:=numT_list (n:Int)
    rw [Int.toNat_natCast,e2,← hL] at this
    cases hx:numT (n:Int)
    rw [hx] at this
    cases s
    simp only [ByteArray.mk.injEq]
    exact Array.toList_inj.1 this
   have ne48:∀ {a:UInt8},a ≠ 48 → a.toNat ≠ 48:=fun h e=>h (by rw [← UInt8.toNat_inj];exact e)
   rw [hv] at h0 h
   match L,hd,hhd,hv,fin,hs,h0,h with
   | [],_,_,_,_,hs,_,_=>rw [List.length_nil] at hs;omega
   | [a],hd,_,hv,fin,_,_,_ =>
    have d1:=hd a (by simp)
    simp only [List.foldl_cons,List.foldl_nil] at hv
    refine fin (a.toNat - 48) (by omega) ?_
    rw [dec1 (by omega),ofNat_dig (b:=a) (by omega)]
   | [a,b],hd,hhd,hv,fin,_,_,_ =>
    have d1:=hd a (by simp)
    have d2:=hd b (by simp)
    have d3:=ne48 (by simpa using hhd)
    simp only [List.foldl_cons,List.foldl_nil] at hv
    refine fin (10 * (a.toNat - 48)+(b.toNat - 48)) (by omega) ?_
    rw [dec2 (by omega) (by omega),ofNat_dig (b:=a) (by omega),ofNat_dig (b:=b) (by omega)]
   | [a,b,c],hd,hhd,hv,fin,_,_,_ =>
    have d1:=hd a (by simp)
    have d2:=hd b (by simp)
    have d4:=hd c (by simp)
    have d3:=ne48 (by simpa using hhd)
    simp only [List.foldl_cons,List.foldl_nil] at hv
    refine fin (100 * (a.toNat - 48)+(10 * (b.toNat - 48)+(c.toNat - 48))) (by omega) ?_
    rw [dec3 (by omega) (by omega),ofNat_dig (b:=a) (by omega),ofNat_dig (b:=b) (by omega),ofNat_dig (b:=c) (by omega)]
   | a :: b :: c :: d :: r,hd,hhd,hv,fin,_,h0,h =>
    exfalso
    have d1:=hd a (by simp)
    have d3:=ne48 (by simpa using hhd)
    have d2:=hd b (by simp)
    have d4:=hd c (by simp)
    have d5:=hd d (by simp)
    have grow:∀ (r:List UInt8) (n:Int),(∀ b ∈ r,48≤b.toNat∧b.toNat≤57) → 1000≤n → 1000≤r.foldl (fun n b=>10 * n+((b.toNat:Int) - 48)) n:=by
     intro r
     induction r with
     | nil=>intro n _ hn;exact hn
     | cons x r ih =>
      intro n hr hn
      have:=hr x (by simp)
      exact ih _ (fun b hb=>hr b (by simp [hb])) (by show (1000:Int)≤10 * n+((x.toNat:Int) - 48);omega)
    simp only [List.foldl_cons] at h
    have:=grow r (10 * (10 * (10 * (10 * 0+((a.toNat:Int) - 48))+((b.toNat:Int) - 48))+((c.toNat:Int) - 48))+((d.toNat:Int) - 48)) (fun x hx=>hd x (by simp [hx])) (by omega)
    omega
  ·omega
 ·omega
theorem num_at {v:Int} (h0:0≤v) (h:v≤999):atV (numT v).data.toList=v:=by
 obtain ⟨h1,h2,h3,h4⟩:=num_rd h0 h
 have hd:Digs (numT v):=fun i hi=>List.all_eq_true.1 h2 _ (by rw [show (numT v)[i]=(numT v).data.toList[i]'(by simpa using hi) from by simp [ByteArray.getElem_eq_getElem_data]];exact List.getElem_mem _)
 have ha:=atoi_digs hd h3
 unfold atV
 rw [Lib.atoiAll_short _ (by rw [← size_list];omega),ha]
 show numV (numT v)=v
 unfold rdA rdV at h1
 have e:((numT v).data.toList.all digB && decide (1≤(numT v).size))=true:=by rw [h2,decide_eq_true h3];rfl
 rw [if_pos e] at h1
 split at h1
 ·exact h1
 ·omega
def findI (ns:List ByteArray) (n:List UInt8):Option Nat:=ns.findIdx? fun x=>x.data.toList == n
def acRead (ns:List ByteArray) (W:List (List UInt8)) (k:Nat):Option AcI :=
 if 2<k then (if W.length=1 then some ⟨k,0,0⟩ else none)
 else match W with
  | [_,n,a]=>match findI ns n with
   | some i=>if inB (rdA (bytesOf a)) 0 999 then some ⟨k,i,rdA (bytesOf a)⟩ else none
   | none=>none
  | _=>none
def acTry (ns:List ByteArray) (W:List (List UInt8)) (k:Nat):AcI :=
 if 2<k then ⟨k,0,0⟩ else match W with
  | [_,n,a]=>⟨k,((findI ns n).getD 0:Nat),atV a⟩
  | _=>⟨k,0,0⟩
def acReadI (ns:List ByteArray) (T:ByteArray) (k:Nat):Option AcI :=
 if acText ns (acTry ns (parts T) k)=some T then some (acTry ns (parts T) k) else none
theorem acWord_free:∀ k:Nat,32 ∉ (acWord k).data.toList:=by
 intro k
 have h:∀ x ∈ acWords,32 ∉ x.data.toList:=by decide
 unfold acWord
 rw [List.getD_eq_getElem?_getD]
 cases hk:acWords[k]? with
 | none=>decide
 | some x=>exact h x (List.mem_of_getElem? hk)
theorem bytesOf_list (l:List UInt8):(bytesOf l).data.toList=l:=by simp [bytesOf]
theorem bytesOf_toList (s:ByteArray):bytesOf s.data.toList=s:=by cases s;simp [bytesOf]
theorem acRead_eq {ns:List ByteArray} (hns:∀ n ∈ ns,32 ∉ n.data.toList) (T:ByteArray) (k:Nat) (hk:1≤k∧k≤6) (h0:(parts T).head?=some (acWord k).data.toList) :
  acRead ns (parts T) k=acReadI ns T k:=by
 obtain ⟨w0,ws,hW⟩:∃ w0 ws,parts T=w0 :: ws:=by
  cases h:parts T with
  | nil=>exact absurd h (parts_ne T)
  | cons a b=>exact ⟨a,b,rfl⟩
 rw [hW] at h0
 simp only [List.head?_cons,Option.some.injEq] at h0
 subst h0
 have hkk:inB (k:Int) 1 6=true:=by simp [inB];omega
 unfold acReadI acRead
 by_cases h2:2<k
 ·have ht:acTry ns (parts T) k=⟨k,0,0⟩:=by unfold acTry;rw [if_pos h2]
  have hx:acText ns ⟨k,0,0⟩=some (acWord k):=by
   unfold acText
   rw [if_pos hkk,if_neg (by show ¬ (k:Int)≤2;omega)]
   simp
  rw [if_pos h2,ht,hx]
  have:(parts T).length=1 ↔ some (acWord k)=some T:=by
   rw [Option.some.injEq]
   constructor
   ·intro h
    rw [hW] at h
    have:ws=[]:=by simpa using h
    subst this
    exact parts_inj (by rw [hW,parts_one (acWord_free k)])
   ·intro h
    rw [← h,parts_one (acWord_free k)];rfl
  by_cases h3:(parts T).length=1
  ·rw [if_pos h3,if_pos (this.1 h3)]
  ·rw [if_neg h3,if_neg (fun e=>h3 (this.2 e))]
 ·rw [if_neg h2]
  have hk2:(k:Int)≤2:=by omega
  have hx:∀ (i:Nat) (a:Int),acText ns ⟨k,i,a⟩=some T ↔ (i<ns.length∧0≤a∧a≤999)∧parts T=[(acWord k).data.toList,(ns.getD i ⟨#[]⟩).data.toList,(numT a).data.toList]:=by
   intro i a
   unfold acText
   rw [if_pos hkk,if_pos hk2]
   show (if (inB (i:Int) 0 ((ns.length:Int) - 1) && inB a 0 999)=true then some (acWord k ++ bSp ++ ns.getD i ⟨#[]⟩ ++ bSp ++ numT a) else none)=some T ↔ _
   by_cases hr:i<ns.length∧0≤a∧a≤999
   ·have hb:(inB (i:Int) 0 ((ns.length:Int) - 1) && inB a 0 999)=true:=by simp [inB];omega
    rw [if_pos hb,Option.some.injEq]
    have hp:=parts_three (acWord_free k) (hns _ (show ns.getD i ⟨#[]⟩ ∈ ns by rw [List.getD_eq_getElem?_getD,List.getElem?_eq_getElem hr.1];exact List.getElem_mem _)) (num_free hr.2.1 hr.2.2)
    constructor
    ·intro e;exact ⟨hr,by rw [← e];exact hp⟩
    ·rintro ⟨-,e⟩;exact parts_inj (by rw [e];exact hp)
   ·have hb:¬ (inB (i:Int) 0 ((ns.length:Int) - 1) && inB a 0 999)=true:=by simp [inB];omega
    rw [if_neg hb]
    constructor
    ·intro e;cases e
    ·rintro ⟨e,-⟩;exact absurd e hr
  rw [hW]
  match ws,hW with
  | [],hW =>
   show none=_
   have ht:acTry ns [(acWord k).data.toList] k=⟨k,(0:Nat),0⟩:=by unfold acTry;rw [if_neg h2];rfl
   rw [ht,if_neg]
   rw [hx,hW]
   rintro ⟨-,e⟩;simp at e
  | [n],hW =>
   show none=_
   have ht:acTry ns [(acWord k).data.toList,n] k=⟨k,(0:Nat),0⟩:=by unfold acTry;rw [if_neg h2];rfl
   rw [ht,if_neg]
   rw [hx,hW]
   rintro ⟨-,e⟩;simp at e
  | n :: a :: b :: r,hW =>
   show none=_
   have ht:acTry ns ((acWord k).data.toList :: n :: a :: b :: r) k=⟨k,(0:Nat),0⟩:=by unfold acTry;rw [if_neg h2];rfl
   rw [ht,if_neg]
   rw [hx,hW]
   rintro ⟨-,e⟩;simp at e
  | [n,a],hW =>
   have ht:acTry ns [(acWord k).data.toList,n,a] k=⟨k,((findI ns n).getD 0:Nat),atV a⟩:=by unfold acTry;rw [if_neg h2]
   rw [ht]
   show (match findI ns n with|some i=>if inB (rdA (bytesOf a)) 0 999 then some (⟨k,i,rdA (bytesOf a)⟩:AcI) else none|none=>none)=_
   cases hf:findI ns n with
   | none =>
    show none=_
    rw [if_neg]
    rw [hx,hW]
    rintro ⟨⟨hi,-⟩,e⟩
    simp only [List.cons.injEq,and_true,true_and] at e
    have:=List.findIdx?_eq_none_iff.1 hf _ (show ns.getD ((none:Option Nat).getD 0) ⟨#[]⟩ ∈ ns by rw [List.getD_eq_getElem?_getD,List.getElem?_eq_getElem hi];exact List.getElem_mem _)
    rw [← e.1] at this
    simp at this
   | some i =>
    obtain ⟨hi,hin⟩:∃ h:i<ns.length,(ns[i]'h).data.toList=n:=by
     obtain ⟨h1,h2,_⟩:=List.findIdx?_eq_some_iff_getElem.1 hf
     exact ⟨h1,by simpa using h2⟩
    have hgd:ns.getD i ⟨#[]⟩=ns[i]:=by rw [List.getD_eq_getElem?_getD,List.getElem?_eq_getElem hi];rfl
    show (if inB (rdA (bytesOf a)) 0 999=true then some (⟨k,i,rdA (bytesOf a)⟩:AcI) else none)=(if acText ns ⟨k,(i:Nat),atV a⟩=some T then some (⟨k,(i:Nat),atV a⟩:AcI) else none)
    by_cases hr:inB (rdA (bytesOf a)) 0 999=true
    ·have hr2:0≤rdA (bytesOf a)∧rdA (bytesOf a)≤999:=by simpa [inB] using hr
     have e1:=rd_num hr2.1 hr2.2
     have e2:=num_at hr2.1 hr2.2
     rw [e1,bytesOf_list] at e2
     rw [if_pos hr,e2,if_pos]
     rw [hx,hW,hgd,hin,e1,bytesOf_list]
     exact ⟨⟨hi,hr2⟩,rfl⟩
    ·rw [if_neg hr,if_neg]
     rw [hx,hW]
     rintro ⟨⟨-,h3,h4⟩,e⟩
     simp only [List.cons.injEq,and_true,true_and] at e
     apply hr
     have e3:bytesOf a=numT (atV a):=by have h5:=congrArg bytesOf e.2;rw [bytesOf_toList] at h5;exact h5
     rw [e3,(num_rd h3 h4).1]
     simp [inB];omega
def kindIn (w0:List UInt8):Option Nat:=(List.range' 1 6).find? fun k=>(acWord k).data.toList == w0
def acParse (ns:List ByteArray) (T:ByteArray):Option AcI:=match kindIn ((parts T).headD []) with
 | some k=>acReadI ns T k
 | none=>none
theorem kind_at {w0:List UInt8} {k:Nat} (hk:1≤k∧k≤6) (h:(acWord k).data.toList=w0):kindIn w0=some k:=by
 subst h
 obtain ⟨h1,h2⟩:=hk
 have:∀ k:Nat,k<7 → 1≤k → kindIn (acWord k).data.toList=some k:=by decide
 exact this k (by omega) h1
theorem kind_no {w0:List UInt8} (h:∀ k:Nat,1≤k → k≤6 → (acWord k).data.toList ≠ w0):kindIn w0=none:=by
 unfold kindIn
 rw [List.find?_eq_none]
 intro k hk
 simp only [List.mem_range'_1] at hk
 simpa using h k hk.1 (by omega)
end Go.Proofs.YtbljmfcifljkaaaGreatDoor
/-
  The laws' copies and comparisons of acts. Own work.
-/
namespace Go.Proofs.YtbljmfcifljkaaaGreatDoor
open Go.RowKit
set_option maxRecDepth 100000
set_option maxHeartbeats 4000000
def acV (x:AcI):Value:=.agg #[.int .i64 x.kind,.int .i64 x.rule,.int .i64 x.place]
theorem eqAct_same (x:AcI) (w:World):Calls Tryz.prog 26 #[acV x,acV x] w fun e w'=>e=.returned (.bool true)∧Below w.heap.size w w':=by
 unfold acV
 have e1:(x.kind != x.kind)=false:=by simp
 have e2:(x.rule != x.rule)=false:=by simp
 have e3:(x.place != x.place)=false:=by simp
 go_enter Tryz.func26,Tryz.ntmps26
 go_wp2
 go_ret
 exact ⟨rfl,(alloc_below _ _).trans ((alloc_below _ _).mono (by simp))⟩
end Go.Proofs.YtbljmfcifljkaaaGreatDoor
/-
  The reference's l1Split: the parts of a text. Own work.
-/
namespace Go.Proofs.YtbljmfcifljkaaaGreatDoor
open Go.RowKit
theorem splitB_each (b:UInt8):∀ (l acc p:List UInt8),p ∈ splitB b acc l → p.length≤acc.length+l.length
 | [],acc,p,h=>by simp [splitB] at h;subst h;simp
 | c :: l,acc,p,h=>by
  unfold splitB at h
  split at h
  ·rcases List.mem_cons.1 h with rfl|h
   ·simp
   ·have:=splitB_each b l [] p h;simp at this ⊢;omega
  ·have:=splitB_each b l _ p h;simp at this ⊢;omega
theorem infoSt:(Tryz.prog.info? 9).map (fun i=>(i.zero,i.size,i.bytes))=some (some (.string ⟨#[]⟩),1,16):=by kernel_rfl
def ptCells (p:List UInt8):List Value:=[.string (bytesOf p)]
theorem ptCells_len (p:List UInt8):(ptCells p).length=1:=rfl
def PartsOwn (w:World) (B:Nat) (v:Value) (ps:List (List UInt8)):Prop:=w.ownsRow B 9 1 v ps.length (ps.flatMap ptCells)
def PartsAt (w:World) (v:Value) (ps:List (List UInt8)):Prop:=SlAt 1 v ps.length fun i b o=>∃ h:i<ps.length,w.cell? ⟨b,o,none⟩=some (.string (bytesOf ps[i]))
theorem PartsOwn.at {w:World} {B:Nat} {v:Value} {ps:List (List UInt8)} (h:PartsOwn w B v ps):PartsAt w v ps:=by
 refine owns_slat h _ fun i b o hi hc=>⟨hi,?_⟩
 have g:∀ j,j<1 → w.cell? ⟨b,o+j,none⟩=(ptCells ps[i])[j]?:=fun j hj=>(hc j hj).trans (flat_get ptCells_len ps i j hi hj)
 exact g 0 (by omega)
theorem PartsAt.keep {w w':World} (hb:Below w.heap.size w w') {v:Value} {ps:List (List UInt8)} (h:PartsAt w v ps):PartsAt w' v ps :=
 h.mono fun i b o ⟨hi,hr⟩=>⟨hi,cell_keep hb hr⟩
theorem parts_push {w:World} {B:Nat} {v:Value} {ps:List (List UInt8)} {t:ByteArray} (p:List UInt8) (hp:bytesOf p=t) (h:w.ownsRow B 9 1 v (ps.length+1) (ps.flatMap ptCells ++ [.string t])):PartsOwn w B v (ps ++ [p]):=by
 subst hp
 unfold PartsOwn
 simpa [List.flatMap_append,ptCells] using h
def cutL (s:ByteArray) (i j:Nat):List UInt8:=(s.extract i j).data.toList
theorem bytes_cut (s:ByteArray) (i j:Nat):bytesOf (cutL s i j)=s.extract i j:=by unfold bytesOf cutL;cases s.extract i j;rfl
theorem cutL_eq (s:ByteArray) (i j:Nat):cutL s i j=(s.data.toList.take j).drop i:=by
 unfold cutL
 simp [ByteArray.extract,ByteArray.copySlice,List.drop_take]
theorem cutL_nil (s:ByteArray) (k:Nat):cutL s k k=[]:=by rw [cutL_eq];apply List.drop_eq_nil_of_le;simp;omega
theorem cutL_snoc (s:ByteArray) (f k:Nat) (h:f≤k) (hk:k<s.size):cutL s f (k+1)=cutL s f k ++ [s[k]]:=by
 have hk':k<s.data.toList.length:=by simpa using hk
 rw [cutL_eq,cutL_eq,List.take_succ_eq_append_getElem hk',List.drop_append_of_le_length (by simp;omega)]
 rfl
theorem drop_step (s:ByteArray) (k:Nat) (hk:k<s.size):s.data.toList.drop k=s[k] :: s.data.toList.drop (k+1):=List.drop_eq_getElem_cons (by simpa using hk)
theorem split_at {b:UInt8} {acc r:List UInt8} {c:UInt8} (h:c=b):splitB b acc (c :: r)=acc :: splitB b [] r:=by conv=>lhs;unfold splitB;rw [if_pos h]
theorem split_on {b:UInt8} {acc r:List UInt8} {c:UInt8} (h:¬ c=b):splitB b acc (c :: r)=splitB b (acc ++ [c]) r:=by conv=>lhs;unfold splitB;rw [if_neg h]
theorem l1Split_any (s:ByteArray) (b:UInt8) (w:World) (hs:s.size≤4194304) :
  Calls Tryz.prog 129 #[.string s,.int .u8 b.toNat] w fun e w'=>∃ v,e=.returned v∧PartsOwn w' w.heap.size v (splitB b [] s.data.toList)∧Below w.heap.size w w':=by
 obtain ⟨R,hR⟩:∃ R,splitB b [] s.data.toList=R:=⟨_,rfl⟩
 rw [hR]
 have HR:=Lib.hid hR
 have hRl:R.length≤s.size+1:=by rw [← hR];have:=splitB_len b s.data.toList [];simpa using this
 clear hR
 obtain ⟨i0,hi,hz0,hz1,hz2⟩:=info_parts infoSt
 go_enter Tryz.func129,Tryz.ntmps129
 go_wp2
 go_loopw [5,6,7] (fun v fv i wr=>∃ (k f:Nat) (ps:List (List UInt8)),k≤s.size∧f≤k∧i=.int .i64 k∧fv=.int .i64 f∧PartsOwn wr w.heap.size v ps∧Hid (R=ps ++ splitB b (cutL s f k) (s.data.toList.drop k))∧Below w.heap.size w wr∧ps.length≤k) (fun _ _ i _=>s.size - (intOf i).toNat)
 case atStart=>exact ⟨0,0,[],Nat.zero_le _,Nat.le_refl _,rfl,rfl,⟨by simp,.inl ⟨rfl,rfl⟩⟩,(by rw [cutL_nil];exact HR.out.symm:Hid (R=[] ++ splitB b (cutL s 0 0) (s.data.toList.drop 0))),Below.refl _ _,Nat.le_refl _⟩
 case round =>
  obtain ⟨k,f,ps,hk,hfk,rfl,rfl,hown,HG,hbel,hal⟩:=hrel
  have hsz:=hbel.size
  obtain ⟨ao,cp,rfl⟩:=owns_shape' hown
  by_cases hlt:k<s.size
  ·by_cases hb:s[k]=b
   ·have hbb:((s[k].toNat:Int) == b.toNat)=true:=by rw [hb];simp
    have HS:Hid (R=(ps ++ [cutL s f k]) ++ splitB b (cutL s (k+1) (k+1)) (s.data.toList.drop (k+1))):=(show _=_ by rw [HG.out,drop_step s k hlt,split_at hb,cutL_nil];simp)
    clear HG hb
    go_wp2_with (at_builtin;refine wpList_append_own _ rfl _ _ 176 rfl w.heap.size 9 i0 _ 1 16 Tryz.underlying176 hi hz0 hz1 hz2 rfl (by decide) _ _ _ rfl (hown.alloc _) ⟨wr.heap.size,0,none⟩ 1 1 [.string (s.extract f k)] rfl rfl ?c1 ?c2 ?c3 ?c4 ?c5 ?_)
    case c1 =>
     intro i u hj
     match i,hj with
     | 0,hj=>simp at hj;subst hj;simp [Addr.add]
    case c2=>first|(intro u hu;simp at hu;subst hu;rfl)|exact rfl
    case c3=>first|omega|(unfold maxLen;omega)
    case c4=>omega
    case c5=>first|omega|(simp;omega)
    intro v' w3 hown3 hgrow _
    have hb3:Below w.heap.size w w3:=(hbel.alloc (by omega) _).grown hgrow (by simp;omega) (fun j hj=>(World.ownsRow.lt hown j hj).1)
    have hown4:=parts_push _ (bytes_cut s f k) hown3
    clear hown3 hgrow hown
    go_wp2
    go_roundw
    case rel=>exact ⟨k+1,k+1,_,by omega,Nat.le_refl _,by go_num,by go_num,hown4,HS,hb3,by simp;omega⟩
    case measure=>simp [intOf];omega
   ·have hbb:((s[k].toNat:Int) == b.toNat)=false:=by rw [u8_beq _ _ (by have:=b.toNat_lt;omega)];simpa using hb
    have HS:Hid (R=ps ++ splitB b (cutL s f (k+1)) (s.data.toList.drop (k+1))):=(show _=_ by rw [HG.out,drop_step s k hlt,split_on hb,cutL_snoc s f k hfk hlt])
    clear HG hb
    go_wp2
    go_roundw
    case rel=>exact ⟨k+1,f,ps,by omega,by omega,by go_num,rfl,hown,HS,hbel,by omega⟩
    case measure=>simp [intOf];omega
  ·obtain rfl:k=s.size:=by omega
   have HE:Hid (R=ps ++ [cutL s f s.size]):=(show _=_ by rw [HG.out,List.drop_eq_nil_of_le (by simp)];rfl)
   clear HG
   go_wp2_with (at_builtin;refine wpList_append_own _ rfl _ _ 176 rfl w.heap.size 9 i0 _ 1 16 Tryz.underlying176 hi hz0 hz1 hz2 rfl (by decide) _ _ _ rfl (hown.alloc _) ⟨wr.heap.size,0,none⟩ 1 1 [.string (s.extract f s.size)] rfl rfl ?c1 ?c2 ?c3 ?c4 ?c5 ?_)
   case c1 =>
    intro i u hj
    match i,hj with
    | 0,hj=>simp at hj;subst hj;simp [Addr.add]
   case c2=>first|(intro u hu;simp at hu;subst hu;rfl)|exact rfl
   case c3=>first|omega|(unfold maxLen;omega)
   case c4=>omega
   case c5=>first|omega|(simp;omega)
   intro v' w3 hown3 hgrow _
   have hb3:Below w.heap.size w w3:=(hbel.alloc (by omega) _).grown hgrow (by simp;omega) (fun j hj=>(World.ownsRow.lt hown j hj).1)
   have hown4:=parts_push _ (bytes_cut s f s.size) hown3
   clear hown3 hgrow hown
   go_wp2
   go_ret
   rw [HE.out]
   exact ⟨_,rfl,hown4,hb3⟩
end Go.Proofs.YtbljmfcifljkaaaGreatDoor
/-
  The parts of a text, the library's Split: they are mine. Own work.
-/
namespace Go.Proofs.YtbljmfcifljkaaaGreatDoor
open Go.RowKit
theorem splitK_mine (b:UInt8):∀ (n:Nat) (l:List UInt8),l.length≤n → Lib.splitK [b] 0 (Lib.count l [b]) l=splitB b [] l:=by
 intro n
 induction n with
 | zero =>
  intro l hl
  obtain rfl:l=[]:=List.eq_nil_of_length_eq_zero (by omega)
  rcases index_one b [] with ⟨h1,h2⟩|⟨x,r,h1,h2,h3⟩
  ·rw [Lib.count_miss h2];rfl
  ·simp at h1
 | succ n ih =>
  intro l hl
  rcases index_one b l with ⟨h1,h2⟩|⟨x,r,h1,h2,h3⟩
  ·rw [Lib.count_miss h2,splitB_none b l [] h1];rfl
  ·have hd:l.drop (x.length+[b].length)=r:=by rw [h1];simp
   rw [Lib.count_hit (by simp) h3,Nat.add_comm,splitB_some b l x r [] h1 h2]
   have hne:¬ (Lib.index l [b] == -1)=true:=by rw [h3,beq_iff_eq];omega
   rw [Lib.splitK,if_neg hne,h3]
   have e1:((x.length:Int)).toNat=x.length:=by omega
   rw [e1,hd,ih r (by have:=congrArg List.length h1;simp at this;omega)]
   congr 1
   rw [h1];simp
theorem splitB_lib (b:UInt8) (s:ByteArray):Lib.splitB ⟨#[b]⟩ 0 (Lib.countB s ⟨#[b]⟩) s=(splitB b [] s.data.toList).map bytesOf:=by
 have h:=Lib.splitB_data ⟨#[b]⟩ 0 (Lib.countB s ⟨#[b]⟩) s
 have h2:=splitK_mine b _ s.data.toList (Nat.le_refl _)
 rw [show (⟨#[b]⟩:ByteArray).data.toList=[b] from rfl] at h
 have h3:(Lib.splitB ⟨#[b]⟩ 0 (Lib.countB s ⟨#[b]⟩) s).map (·.data.toList)=splitB b [] s.data.toList:=by rw [h];exact h2
 rw [← h3,List.map_map]
 have:(bytesOf ∘ fun x:ByteArray=>x.data.toList)=id:=by funext x;cases x;simp [bytesOf]
 rw [this,List.map_id]
end Go.Proofs.YtbljmfcifljkaaaGreatDoor
/-
  The reference's l1Read at every string. Own work.
-/
namespace Go.Proofs.YtbljmfcifljkaaaGreatDoor
open Go.RowKit
set_option maxRecDepth 100000
set_option maxHeartbeats 4000000
theorem all_dig {s:ByteArray}:s.data.toList.all digB=true ↔ Digs s:=by
 rw [List.all_eq_true]
 constructor
 ·intro h i hi
  exact h _ (by rw [show s[i]=s.data.toList[i]'(by simpa using hi) from by simp [ByteArray.getElem_eq_getElem_data]];exact List.getElem_mem _)
 ·intro h b hb
  obtain ⟨i,hi,rfl⟩:=List.mem_iff_getElem.1 hb
  have:=h i (by simpa using hi)
  rwa [show s[i]'(by simpa using hi)=s.data.toList[i] from by simp [ByteArray.getElem_eq_getElem_data]] at this
theorem rdA_no {s:ByteArray} (k:Nat) (hk:k<s.size) (h:digB s[k]=false):rdA s=-1:=by
 unfold rdA
 rw [if_neg]
 intro e
 rw [Bool.and_eq_true] at e
 have:=all_dig.1 e.1 k hk
 rw [h] at this;cases this
theorem rdA_zero {s:ByteArray} (h0:0<s.size) (h:s[0]=48) (h1:1<s.size):rdA s=-1:=by
 unfold rdA
 split
 ·exact rdV_zero h0 h h1
 ·rfl
theorem rdA_size {s:ByteArray} (h:¬ (1≤s.size∧s.size≤6)):rdA s=-1:=by
 unfold rdA
 split
 ·rename_i e
  rw [Bool.and_eq_true,decide_eq_true_iff] at e
  exact rdV_long (by omega)
 ·rfl
theorem rdA_yes {s:ByteArray} (h0:0<s.size) (h6:s.size≤6) (h:¬ (s[0]=48∧1<s.size)) (hd:Digs s):rdA s=numG (s.data.toList.drop 0) 0:=by
 unfold rdA
 rw [if_pos]
 ·exact rdV_num h0 h6 h
 ·rw [Bool.and_eq_true,decide_eq_true_iff]
  exact ⟨all_dig.2 hd,by omega⟩
theorem l1ReadA_any (s:ByteArray) (w:World) (hs:s.size≤4194304) :
  Calls Tryz.prog 101 #[.string s] w fun e w'=>e=.returned (.int .i64 (rdA s))∧w=w':=by
 by_cases h6:1≤s.size∧s.size≤6
 ·have h0:0<s.size:=by omega
  have g1:inB s.size 1 6=true:=by simp [inB];omega
  by_cases hz:s[0]=48∧1<s.size
  ·have q1:((s[0].toNat:Int) == 48)=true:=by rw [hz.1];rfl
   have q2:(1:Int)<s.size:=by omega
   have HR:=Lib.hid (rdA_zero h0 hz.1 hz.2)
   clear hz
   go_enter Tryz.func101,Tryz.ntmps101
   go_wp2_with (go_at_call 80;refine (l1In_any _ _ _ _).mono ?_;rintro e w1 ⟨rfl,rfl⟩)
   go_ret
   exact ⟨by rw [HR.out];rfl,rfl⟩
  ·have HR:=Lib.hid (fun hd=>rdA_yes h0 h6.2 hz hd)
   have hzz:((s[0].toNat:Int) == 48)=false∨(((s[0].toNat:Int) == 48)=true∧¬ (1:Int)<s.size):=by
    by_cases e:s[0]=48
    ·exact .inr ⟨by rw [e];rfl,fun hh=>hz ⟨e,by omega⟩⟩
    ·exact .inl (by show ((s[0].toNat:Int) == ((48:Nat):Int))=false;rw [u8_beq _ 48 (by omega)];simpa using e)
   have hs6:=h6.2
   clear hz h6
   rcases hzz with q1|⟨q1,q2⟩
   all_goals
    go_enter Tryz.func101,Tryz.ntmps101
    go_wp2_with (go_at_call 80;refine (l1In_any _ _ _ _).mono ?_;rintro e w1 ⟨rfl,rfl⟩)
    go_loop [3,4] (fun nv i=>∃ (k:Nat) (n:Int),k≤s.size∧i=.int .i64 k∧nv=.int .i64 n∧0≤n∧n+1≤10 ^ k∧Hid (numG (s.data.toList.drop 0) 0=numG (s.data.toList.drop k) n)∧Hid (∀ j,∀ h:j<s.size,j<k → digB (s[j]'h)=true)) (fun _ i=>s.size - (intOf i).toNat)
    case atStart=>exact ⟨0,0,Nat.zero_le _,rfl,rfl,by omega,by decide,Lib.hid rfl,Lib.hid (fun j _ h=>by omega)⟩
    case round =>
     obtain ⟨k,n,hk,rfl,rfl,hn0,hn1,HC,HD⟩:=hrel
     by_cases hlt:k<s.size
     ·have HS:=Lib.hid (HC.out.trans (numG_step s k hlt n))
      cases hdk:digB s[k] with
      | true =>
       have HDN:=Lib.hid hdk
       simp only [digB,Bool.and_eq_true,decide_eq_true_eq] at hdk
       obtain ⟨d1,d2⟩:=hdk
       have hn2:n≤100000:=by
        have:k≤5:=by omega
        match k,this,hn1 with
        | 0,_,h=>simp at h;omega
        | 1,_,h=>simp at h;omega
        | 2,_,h=>simp at h;omega
        | 3,_,h=>simp at h;omega
        | 4,_,h=>simp at h;omega
        | 5,_,h=>simp at h;omega
       have hn3:=Lib.hid (show 10 * n+((s[k].toNat:Int) - 48)+1≤10 ^ (k+1) by rw [Int.pow_succ];omega)
       clear HC hn1
       go_wp2
       go_round
       case rel=>exact ⟨k+1,_,by omega,by go_num,rfl,by omega,hn3.out,HS,Lib.hid (fun j h1 h2=>by
        rcases Nat.lt_or_ge j k with h|h
        ·exact HD.out j h1 h
        ·obtain rfl:j=k:=by omega
         exact HDN.out)⟩
       case measure=>simp [intOf];omega
      | false =>
       have HN:=Lib.hid (rdA_no k hlt hdk)
       have hdd:(s[k].toNat:Int)<48∨(¬ (s[k].toNat:Int)<48∧(57:Int)<s[k].toNat):=by
        have hq:¬ ((48:Int)≤(s[k].toNat:Int)∧(s[k].toNat:Int)≤57):=by
         intro hh
         have:digB s[k]=true:=by unfold digB;rw [decide_eq_true hh.1,decide_eq_true hh.2];rfl
         rw [this] at hdk;cases hdk
        omega
       clear hdk HC HS hn1
       rcases hdd with d1|⟨d1,d2⟩
       all_goals
        go_wp2
        go_ret
        exact ⟨by rw [HN.out];rfl,rfl⟩
     ·obtain rfl:k=s.size:=by omega
      have HF:=Lib.hid (HR.out (fun j hj=>HD.out j hj hj))
      clear HD
      go_wp2
      go_ret
      exact ⟨ret_int (by rw [HF.out,HC.out,numG_end]),rfl⟩
 ·have g1:inB s.size 1 6=false:=by simp [inB];omega
  have HR:=Lib.hid (rdA_size h6)
  go_enter Tryz.func101,Tryz.ntmps101
  go_wp2_with (go_at_call 80;refine (l1In_any _ _ _ _).mono ?_;rintro e w1 ⟨rfl,rfl⟩)
  go_ret
  exact ⟨by rw [HR.out];rfl,rfl⟩
end Go.Proofs.YtbljmfcifljkaaaGreatDoor
