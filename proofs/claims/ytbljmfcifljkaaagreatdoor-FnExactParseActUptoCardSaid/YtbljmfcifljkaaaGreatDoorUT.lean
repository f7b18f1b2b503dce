/-
  Trees of nodes and their texts, no program in sight. Own work.
-/
import Derived.Test.YtbljmfcifljkaaaGreatDoorUF
import Derived.Test.YtbljmfcifljkaaaGreatDoorUC
import Derived.Lib.ItoaNum
import Derived.Shelf.Small.Strs
import Derived.Shelf.Strconv.Atoi
import Derived.Shelf.Strconv.Itoa0
import Derived.Shelf.Strconv.Itoa1
import Derived.Shelf.LaysM
import Derived.Shelf.Strconv.Itoa2
import Derived.Shelf.Strconv.Itoa3
import Derived.Shelf.Strings.Search1
import Derived.Shelf.Strings.Search2
import Derived.Shelf.Strings.Search3
import Derived.Shelf.Strings.Count
import Derived.Shelf.Strings.Shaped
import Derived.Shelf.Strings.Prefix
import Derived.Shelf.Unicode.DecodeSlow
import Derived.Test.YtbljmfcifljkaaaGreatDoorProg
import Derived.Shelf.Strings.Builder1
import Derived.Shelf.Strings.Builder2
import Derived.Shelf.Utf8.RuneCount
import Derived.Shelf.Strconv.AtoiErrFast
import Derived.Shelf.Strconv.ParseIntEmpty
import Derived.Shelf.Strconv.AtoiFail
import Derived.Shelf.Strconv.Clone
import Derived.Shelf.Strconv.SyntaxError
import Derived.Shelf.LaysC
import Derived.Shelf.Strconv.ToError
import Derived.Shelf.Strconv.Lower
import Derived.Shelf.Strconv.ParseUint10
import Derived.Shelf.Strconv.ParseUint10Empty
import Derived.Shelf.Strconv.ParseUint10Any
import Derived.Shelf.Strconv.ParseInt10
import Derived.Shelf.Strconv.AtoiLong
import Derived.Shelf.Strconv.AtoiInnerAll
import Derived.Shelf.Strconv.RangeError
import Derived.Shelf.Strconv.ToErrorRange
import Derived.Shelf.Strconv.AtoiAll
import Derived.Shelf.Strconv.ErrVarAll
import Derived.Shelf.Strings.Split
import Derived.Shelf.Strings.SplitShaped
import Derived.Shelf.Unicode.Decode
import Derived.Shelf.Strings.RuneCount
import Derived.Shelf.Strings.Explode
import Derived.Shelf.Unicode.DecodeAny
import Derived.Test.YtbljmfcifljkaaaGreatDoorUB
import Derived.KernelRfl
set_option linter.all false
set_option maxRecDepth 100000
set_option maxHeartbeats 8000000
namespace Go.Proofs.YtbljmfcifljkaaaGreatDoor
open Go.RowKit
inductive Tr where
 | leaf (n:Nd)
 | seq (a b:Tr)
 | par (a b:Tr)
def Tr.isSeq:Tr → Bool
 | .seq _ _=>true
 | _=>false
def Tr.isPar:Tr → Bool
 | .par _ _=>true
 | _=>false
def Tr.count:Tr → Nat
 | .leaf _=>1
 | .seq a b=>a.count+b.count+1
 | .par a b=>a.count+b.count+1
def LeafOk (n:Nd):Prop:=(n.kind=17∧n.name.size≤8)∨(1≤n.kind∧n.kind≤14∧0≤n.value∧n.value≤96)
def Tr.Ok:Tr → Prop
 | .leaf n=>LeafOk n
 | .seq a b=>a.Ok∧b.Ok
 | .par a b=>a.Ok∧b.Ok
def treesGo:List Nd → List Tr → Option (List Tr)
 | [],st=>some st
 | n :: r,st =>
  if n.kind=15 then
   (match st with
   | b :: a :: st'=>treesGo r (.seq a b :: st')
   | _=>none)
  else if n.kind=16 then
   (match st with
   | b :: a :: st'=>treesGo r (.par a b :: st')
   | _=>none)
  else treesGo r (.leaf n :: st)
theorem treesGo_seq {n:Nd} {r:List Nd} {a b:Tr} {st:List Tr} (h:n.kind=15):treesGo (n :: r) (b :: a :: st)=treesGo r (.seq a b :: st):=by
 conv=>lhs;unfold treesGo
 rw [if_pos h]
theorem treesGo_par {n:Nd} {r:List Nd} {a b:Tr} {st:List Tr} (h:n.kind=16):treesGo (n :: r) (b :: a :: st)=treesGo r (.par a b :: st):=by
 conv=>lhs;unfold treesGo
 rw [if_neg (by omega),if_pos h]
theorem treesGo_leaf {n:Nd} {r:List Nd} {st:List Tr} (h:¬ (n.kind=15∨n.kind=16)):treesGo (n :: r) st=treesGo r (.leaf n :: st):=by
 conv=>lhs;unfold treesGo
 rw [if_neg (by omega),if_neg (by omega)]
theorem treesGo_short {n:Nd} {r:List Nd} {st:List Tr} (h:n.kind=15∨n.kind=16) (hs:st.length<2):treesGo (n :: r) st=none:=by
 unfold treesGo
 match st,hs with
 | [],_=>split <;> first|rfl|(split <;> first|rfl|omega)
 | [a],_=>split <;> first|rfl|(split <;> first|rfl|omega)
def sumC (st:List Tr):Nat:=(st.map Tr.count).sum
theorem leafIn_ok {L:List Df} (h8:∀ d ∈ L,d.name.size≤8) {n:Nd} {x:W2} (h:leafIn L n=some x):LeafOk n∧¬ (n.kind=15∨n.kind=16):=by
 unfold leafIn at h
 split at h
 ·rename_i hk
  split at h
  ·refine ⟨.inl ⟨hk,?_⟩,by omega⟩
   cases hf:findD L n.name with
   | none=>rw [hf] at h;cases h
   | some d =>
    unfold findD at hf
    have h1:=List.mem_of_find?_eq_some hf
    have h2:=List.find?_some hf
    simp only [decide_eq_true_eq] at h2
    rw [← h2];exact h8 d h1
  ·cases h
 ·split at h
  ·rename_i hl
   simp only [leafB,Bool.and_eq_true,decide_eq_true_eq] at hl
   obtain ⟨⟨⟨h0,h1⟩,h2⟩,h3⟩:=hl
   refine ⟨.inr ⟨h1,h2,?_⟩,by omega⟩
   split at h3
   ·simp only [Bool.and_eq_true,decide_eq_true_eq] at h3;omega
   ·split at h3
    ·simp only [Bool.and_eq_true,decide_eq_true_eq] at h3;omega
    ·simp only [decide_eq_true_eq] at h3;omega
  ·cases h
theorem treesGo_typed {L:List Df} (h8:∀ d ∈ L,d.name.size≤8):∀ (ns:List Nd) (st st':List W2) (ts:List Tr),typedGo (leafIn L) ns st=some st' → ts.length=st.length → (∀ t ∈ ts,t.Ok) →
  ∃ ts',treesGo ns ts=some ts'∧ts'.length=st'.length∧(∀ t ∈ ts',t.Ok)∧sumC ts'=sumC ts+ns.length
 | [],st,st',ts,h,hl,ho=>by
  simp only [typedGo,Option.some.injEq] at h
  subst h
  exact ⟨ts,rfl,hl,ho,by simp⟩
 | n :: r,st,st',ts,h,hl,ho=>by
  by_cases hk:n.kind=15∨n.kind=16
  ·unfold typedGo at h
   rw [if_pos hk] at h
   split at h
   ·split at h
    ·rename_i b a st0
     split at h
     ·rename_i x hx
      match ts,hl,ho with
      | tb :: ta :: ts0,hl,ho =>
       have hta:ta.Ok:=ho ta (by simp)
       have htb:tb.Ok:=ho tb (by simp)
       rcases hk with hk|hk
       ·rw [treesGo_seq hk]
        obtain ⟨ts',h1,h2,h3,h4⟩:=treesGo_typed h8 r _ st' (.seq ta tb :: ts0) h (by simp at hl ⊢;omega) (by
         intro t ht
         rcases List.mem_cons.1 ht with rfl|ht
         ·exact ⟨hta,htb⟩
         ·exact ho t (by simp [ht]))
        exact ⟨ts',h1,h2,h3,by rw [h4];simp [sumC,Tr.count];omega⟩
       ·rw [treesGo_par hk]
        obtain ⟨ts',h1,h2,h3,h4⟩:=treesGo_typed h8 r _ st' (.par ta tb :: ts0) h (by simp at hl ⊢;omega) (by
         intro t ht
         rcases List.mem_cons.1 ht with rfl|ht
         ·exact ⟨hta,htb⟩
         ·exact ho t (by simp [ht]))
        exact ⟨ts',h1,h2,h3,by rw [h4];simp [sumC,Tr.count];omega⟩
     ·cases h
    ·cases h
   ·cases h
  ·unfold typedGo at h
   rw [if_neg hk] at h
   split at h
   ·rename_i x hx
    rw [treesGo_leaf hk]
    obtain ⟨ts',h1,h2,h3,h4⟩:=treesGo_typed h8 r _ st' (.leaf n :: ts) h (by simp;omega) (by
     intro t ht
     rcases List.mem_cons.1 ht with rfl|ht
     ·exact (leafIn_ok h8 hx).1
     ·exact ho t ht)
    exact ⟨ts',h1,h2,h3,by rw [h4];simp [sumC,Tr.count];omega⟩
   ·cases h
theorem tree_of_typed {L:List Df} (h8:∀ d ∈ L,d.name.size≤8) {ns:List Nd} {x:W2} (h:typedL (leafIn L) ns=some x):∃ t,treesGo ns []=some [t]∧t.Ok∧t.count≤400:=by
 have hlen:=typedL_len h
 unfold typedL at h
 split at h
 ·split at h
  ·rename_i y hy
   obtain ⟨ts,h1,h2,h3,h4⟩:=treesGo_typed h8 ns [] _ [] hy rfl (by simp)
   match ts,h2 with
   | [t],_=>exact ⟨t,h1,h3 t (by simp),by simp [sumC] at h4;omega⟩
  ·cases h
 ·cases h
def bOpen:ByteArray:=⟨#[40]⟩
def bShut:ByteArray:=⟨#[41]⟩
def bSeq:ByteArray:=⟨#[32,59,32]⟩
def bPar:ByteArray:=⟨#[32,42,32]⟩
def bSp:ByteArray:=⟨#[32]⟩
def bEq:ByteArray:=⟨#[32,61,32]⟩
def numT (v:Int):ByteArray:=⟨(Lib.decDigits v.toNat).toArray⟩
def word (k:Int):ByteArray:=kwords.getD k.toNat ⟨#[]⟩
def leafTxt (n:Nd):ByteArray:=if n.kind=17 then n.name else if n.kind=1∨n.kind=7∨n.kind=13 then word n.kind ++ bSp ++ numT n.value else word n.kind
def brk (s:ByteArray) (b:Bool):ByteArray:=if b then bOpen ++ s ++ bShut else s
def prT (full:Bool):Tr → ByteArray
 | .leaf n=>leafTxt n
 | .seq a b=>brk (prT full a) (full && (a.isSeq || a.isPar)) ++ bSeq ++ brk (prT full b) (b.isSeq || full && b.isPar)
 | .par a b=>brk (prT full a) (a.isSeq || full && a.isPar) ++ bPar ++ brk (prT full b) (b.isSeq || b.isPar)
theorem bsize (a b:ByteArray):(a ++ b).size=a.size+b.size:=ByteArray.size_append
theorem brk_size (s:ByteArray) (b:Bool):(brk s b).size≤s.size+2:=by
 unfold brk
 split
 ·simp only [bsize,show bOpen.size=1 from rfl,show bShut.size=1 from rfl];omega
 ·omega
theorem dec_len2 {n:Nat} (h:n<100):(Lib.decDigits n).length≤2:=by
 by_cases h1:n<10
 ·rw [Lib.decDigits,dif_pos h1];simp
 ·rw [Lib.decDigits,dif_neg h1,Lib.decDigits,dif_pos (by omega)];simp
theorem numT_size {v:Int} (h0:0≤v) (h:v≤96):(numT v).size≤2:=by
 have:=dec_len2 (n:=v.toNat) (by omega)
 simpa [numT,ByteArray.size] using this
theorem word_size (k:Int):(word k).size≤9:=by
 unfold word
 have h:∀ x ∈ kwords,x.size≤9:=by decide
 rw [List.getD_eq_getElem?_getD]
 cases hk:kwords[k.toNat]? with
 | none=>decide
 | some x=>exact h x (List.mem_of_getElem? hk)
theorem leafTxt_size {n:Nd} (h:LeafOk n):(leafTxt n).size≤12:=by
 unfold leafTxt
 rcases h with ⟨h1,h2⟩|⟨h1,h2,h3,h4⟩
 ·rw [if_pos h1];omega
 ·rw [if_neg (by omega)]
  have:=word_size n.kind
  have:=numT_size h3 h4
  split
  ·simp only [bsize,show bSp.size=1 from rfl];omega
  ·omega
theorem prT_size (full:Bool):∀ (t:Tr),t.Ok → (prT full t).size≤12 * t.count
 | .leaf n,h=>by have:=leafTxt_size h;simp only [prT,Tr.count];omega
 | .seq a b,h=>by
  have h1:=prT_size full a h.1
  have h2:=prT_size full b h.2
  have h3:=brk_size (prT full a) (full && (a.isSeq || a.isPar))
  have h4:=brk_size (prT full b) (b.isSeq || full && b.isPar)
  simp only [prT,Tr.count,bsize,show bSeq.size=3 from rfl]
  omega
 | .par a b,h=>by
  have h1:=prT_size full a h.1
  have h2:=prT_size full b h.2
  have h3:=brk_size (prT full a) (a.isSeq || full && a.isPar)
  have h4:=brk_size (prT full b) (b.isSeq || b.isPar)
  simp only [prT,Tr.count,bsize,show bPar.size=3 from rfl]
  omega
def treeL (ns:List Nd):Tr:=((treesGo ns []).getD []).headD (.leaf ⟨0,0,⟨#[]⟩⟩)
theorem treeL_eq {ns:List Nd} {t:Tr} (h:treesGo ns []=some [t]):treeL ns=t:=by simp [treeL,h]
def bLet:ByteArray:=⟨#[108,101,116,32]⟩
def bDrop:ByteArray:=⟨#[100,114,111,112,32]⟩
def bName:ByteArray:=⟨#[110,97,109,101,32]⟩
def txtE (e:En):ByteArray :=
 if e.kind=1 then bLet ++ (e.name ++ bEq ++ prT false (treeL e.body)) else if e.kind=2 then bDrop ++ e.name else bName ++ (e.name ++ bSp ++ e.to)
def chk:List UInt8 → Int → Int
 | [],n=>n
 | b :: r,n=>chk r ((131 * n+b.toNat+1) % 65521)
def chkT (s:ByteArray):Int:=chk s.data.toList 7
def bHash:ByteArray:=⟨#[32,35]⟩
def bNl:ByteArray:=⟨#[10]⟩
def recT (s:ByteArray):ByteArray:=s ++ bHash ++ numT (chkT s) ++ bNl
def journ:List Df → ByteArray → List En → Option ByteArray
 | _,out,[]=>some out
 | L,out,e :: r =>
  match applyE L e with
  | none=>none
  | some R=>journ R (out ++ recT (txtE e)) r
def journal (es:List En):Option ByteArray :=
 if es.length≤60 then
  (match journ [] ⟨#[]⟩ es with
  | some s=>if s.size≤60000 then some s else none
  | none=>none)
 else none
end Go.Proofs.YtbljmfcifljkaaaGreatDoor
/-
  DERIVED: THE SHELF's CONTRACTS AT THIS DUMP, IN PLAIN WORDS (tools/lay-plain.mjs out of 'TryzShelf.lean', which tools/lay-shelf.mjs wrote): THE SAME DECLARATIONS UNDER THE SAME NAMES: 'import', 'namespace', 'open', 'def', 'theorem' AND NOTHING ELSE: no command of the shelf's: FOR A HAND-IN. Each laying: the table of numbers ('.._ren') and one theorem, a field a fact of the dump's own or the kernel's comparison; each contract: ONE APPLICATION.
-/
namespace Go.Proofs
open Go.Shelf
def Tryz.lays137_ren:Go.Shelf.Ren:=⟨fun|137=>175|217=>238|266=>294|n=>n,fun|9=>9|5=>5|3=>3|n=>n,fun|n=>n⟩
theorem Tryz.lays137:Go.Proofs.Lays.n137 Tryz.prog Tryz.lays137_ren:={
 mixed:=by kernel_rfl
 f137:=Tryz.func175.trans (congrArg some (by kernel_rfl))
 f217:=Tryz.func238.trans (congrArg some (by kernel_rfl))
 f266:=Tryz.func294.trans (congrArg some (by kernel_rfl))
 t3:=Tryz.underlying3
 a3:=Tryz.isAgg3
 z3:=Tryz.sizeOf3
 v3:=Tryz.zeroValue3
 t5:=Tryz.underlying5
 a5:=Tryz.isAgg5
 z5:=Tryz.sizeOf5
 v5:=Tryz.zeroValue5
 t9:=Tryz.underlying9
 a9:=Tryz.isAgg9
 z9:=Tryz.sizeOf9
 v9:=Tryz.zeroValue9 }
open Go.RowKit in
theorem Tryz.strings_IndexByte (s:ByteArray) (c:Int) (w:World) :
  Calls Tryz.prog 175 #[.string s,.int .u8 c] w fun e w'=>e=.returned (.int .i64 (Lib.indexByte s.data.toList c.toNat.toUInt8))∧w'=w:=Any.strings_IndexByte Tryz.lays137 s c w
def Tryz.lays172_ren:Go.Shelf.Ren:=⟨fun|172=>131|244=>194|245=>195|247=>261|279=>262|280=>263|281=>264|282=>265|287=>304|316=>305|171=>92|205=>306|321=>327|322=>328|243=>164|246=>224|283=>279|284=>280|285=>281|286=>282|129=>310|317=>309|318=>311|319=>312|320=>313|337=>329|338=>330|n=>n,fun|9=>9|3=>3|75=>96|76=>183|4=>4|5=>5|167=>312|37=>142|0=>0|85=>313|2=>2|168=>315|53=>327|175=>360|46=>362|210=>364|127=>387|145=>390|143=>388|21=>21|171=>326|173=>330|212=>366|51=>221|20=>20|213=>367|232=>408|233=>409|80=>412|n=>n,fun|15=>1|16=>2|17=>3|18=>7|19=>8|n=>n⟩
theorem Tryz.lays172:Go.Proofs.Lays.n172 Tryz.prog Tryz.lays172_ren:={
 mixed:=by kernel_rfl
 f129:=Tryz.func310.trans (congrArg some (by kernel_rfl))
 f171:=Tryz.func92.trans (congrArg some (by kernel_rfl))
 f172:=Tryz.func131.trans (congrArg some (by kernel_rfl))
 f205:=Tryz.func306.trans (congrArg some (by kernel_rfl))
 f243:=Tryz.func164.trans (congrArg some (by kernel_rfl))
 f244:=Tryz.func194.trans (congrArg some (by kernel_rfl))
 f245:=Tryz.func195.trans (congrArg some (by kernel_rfl))
 f246:=Tryz.func224.trans (congrArg some (by kernel_rfl))
 f247:=Tryz.func261.trans (congrArg some (by kernel_rfl))
 f279:=Tryz.func262.trans (congrArg some (by kernel_rfl))
 f280:=Tryz.func263.trans (congrArg some (by kernel_rfl))
 f281:=Tryz.func264.trans (congrArg some (by kernel_rfl))
 f282:=Tryz.func265.trans (congrArg some (by kernel_rfl))
 f283:=Tryz.func279.trans (congrArg some (by kernel_rfl))
 f284:=Tryz.func280.trans (congrArg some (by kernel_rfl))
 f285:=Tryz.func281.trans (congrArg some (by kernel_rfl))
 f286:=Tryz.func282.trans (congrArg some (by kernel_rfl))
 f287:=Tryz.func304.trans (congrArg some (by kernel_rfl))
 f316:=Tryz.func305.trans (congrArg some (by kernel_rfl))
 f317:=Tryz.func309.trans (congrArg some (by kernel_rfl))
 f318:=Tryz.func311.trans (congrArg some (by kernel_rfl))
 f319:=Tryz.func312.trans (congrArg some (by kernel_rfl))
 f320:=Tryz.func313.trans (congrArg some (by kernel_rfl))
 f321:=Tryz.func327.trans (congrArg some (by kernel_rfl))
 f322:=Tryz.func328.trans (congrArg some (by kernel_rfl))
 f337:=Tryz.func329.trans (congrArg some (by kernel_rfl))
 f338:=Tryz.func330.trans (congrArg some (by kernel_rfl))
 t0:=Tryz.underlying0
 a0:=Tryz.isAgg0
 z0:=Tryz.sizeOf0
 v0:=Tryz.zeroValue0
 t2:=Tryz.underlying2
 a2:=Tryz.isAgg2
 z2:=Tryz.sizeOf2
 v2:=Tryz.zeroValue2
 t3:=Tryz.underlying3
 a3:=Tryz.isAgg3
 z3:=Tryz.sizeOf3
 v3:=Tryz.zeroValue3
 t4:=Tryz.underlying4
 a4:=Tryz.isAgg4
 z4:=Tryz.sizeOf4
 v4:=Tryz.zeroValue4
 t5:=Tryz.underlying5
 a5:=Tryz.isAgg5
 z5:=Tryz.sizeOf5
 v5:=Tryz.zeroValue5
 t9:=Tryz.underlying9
 a9:=Tryz.isAgg9
 z9:=Tryz.sizeOf9
 v9:=Tryz.zeroValue9
 t20:=Tryz.underlying20
 a20:=Tryz.isAgg20
 z20:=Tryz.sizeOf20
 v20:=Tryz.zeroValue20
 t21:=Tryz.underlying21
 a21:=Tryz.isAgg21
 z21:=Tryz.sizeOf21
 v21:=Tryz.zeroValue21
 t37:=Tryz.underlying142
 a37:=Tryz.isAgg142
 z37:=Tryz.sizeOf142
 v37:=Tryz.zeroValue142
 t46:=Tryz.underlying362
 a46:=Tryz.isAgg362
 z46:=Tryz.sizeOf362
 v46:=Tryz.zeroValue362
 t51:=Tryz.underlying221
 a51:=Tryz.isAgg221
 z51:=Tryz.sizeOf221
 v51:=Tryz.zeroValue221
 t53:=Tryz.underlying327
 a53:=Tryz.isAgg327
 z53:=Tryz.sizeOf327
 v53:=Tryz.zeroValue327
 t75:=Tryz.underlying96
 a75:=Tryz.isAgg96
 z75:=Tryz.sizeOf96
 v75:=Tryz.zeroValue96
 t76:=Tryz.underlying183
 a76:=Tryz.isAgg183
 z76:=Tryz.sizeOf183
 v76:=Tryz.zeroValue183
 t85:=Tryz.underlying313
 a85:=Tryz.isAgg313
 z85:=Tryz.sizeOf313
 v85:=Tryz.zeroValue313
 t127:=Tryz.underlying387
 a127:=Tryz.isAgg387
 z127:=Tryz.sizeOf387
 v127:=Tryz.zeroValue387
 t143:=Tryz.underlying388
 a143:=Tryz.isAgg388
 z143:=Tryz.sizeOf388
 v143:=Tryz.zeroValue388
 t145:=Tryz.underlying390
 a145:=Tryz.isAgg390
 z145:=Tryz.sizeOf390
 v145:=Tryz.zeroValue390
 t167:=Tryz.underlying312
 a167:=Tryz.isAgg312
 z167:=Tryz.sizeOf312
 v167:=Tryz.zeroValue312
 t168:=Tryz.underlying315
 a168:=Tryz.isAgg315
 z168:=Tryz.sizeOf315
 v168:=Tryz.zeroValue315
 t171:=Tryz.underlying326
 a171:=Tryz.isAgg326
 z171:=Tryz.sizeOf326
 v171:=Tryz.zeroValue326
 t173:=Tryz.underlying330
 a173:=Tryz.isAgg330
 z173:=Tryz.sizeOf330
 v173:=Tryz.zeroValue330
 t175:=Tryz.underlying360
 a175:=Tryz.isAgg360
 z175:=Tryz.sizeOf360
 v175:=Tryz.zeroValue360
 t210:=Tryz.underlying364
 a210:=Tryz.isAgg364
 z210:=Tryz.sizeOf364
 v210:=Tryz.zeroValue364
 t212:=Tryz.underlying366
 a212:=Tryz.isAgg366
 z212:=Tryz.sizeOf366
 v212:=Tryz.zeroValue366
 t213:=Tryz.underlying367
 a213:=Tryz.isAgg367
 z213:=Tryz.sizeOf367
 t232:=Tryz.underlying408
 a232:=Tryz.isAgg408
 z232:=Tryz.sizeOf408
 v232:=Tryz.zeroValue408
 t233:=Tryz.underlying409
 a233:=Tryz.isAgg409
 z233:=Tryz.sizeOf409
 v233:=Tryz.zeroValue409
 g15:=by kernel_rfl
 g16:=by kernel_rfl
 g17:=by kernel_rfl
 g18:=by kernel_rfl
 g19:=by kernel_rfl }
open Go.RowKit in
theorem Tryz.strconv_Atoi (s:ByteArray) (n:Int) (hl:s.size≤18) (h:Lib.atoi s.data.toList=some n) (w:World) :
  Calls Tryz.prog 131 #[.string s] w fun e w'=>e=.returned (.tuple #[.int .i64 n,.nilIface])∧∃ t,w'=Lib.bytesWorld w 5 t:=Any.strconv_Atoi Tryz.lays172 s n hl h w
def Tryz.laysM171_ren:Go.Shelf.Ren:=⟨fun|171=>92|243=>164|246=>224|283=>279|284=>280|285=>281|286=>282|129=>310|317=>309|318=>311|319=>312|320=>313|337=>329|338=>330|n=>n,fun|3=>3|9=>9|2=>2|4=>4|171=>326|0=>0|53=>327|37=>142|5=>5|173=>330|212=>366|51=>221|20=>20|213=>367|46=>362|232=>408|233=>409|n=>n,fun|17=>3|18=>7|19=>8|n=>n⟩
theorem Tryz.laysM171:Go.Proofs.LaysM.n171 Tryz.prog Tryz.laysM171_ren:={
 mixed:=by kernel_rfl
 f129:=Tryz.func310.trans (congrArg some (by kernel_rfl))
 f171:=Tryz.func92.trans (congrArg some (by kernel_rfl))
 f243:=Tryz.func164.trans (congrArg some (by kernel_rfl))
 f246:=Tryz.func224.trans (congrArg some (by kernel_rfl))
 f283:=Tryz.func279.trans (congrArg some (by kernel_rfl))
 f284:=Tryz.func280.trans (congrArg some (by kernel_rfl))
 f285:=Tryz.func281.trans (congrArg some (by kernel_rfl))
 f286:=Tryz.func282.trans (congrArg some (by kernel_rfl))
 f317:=Tryz.func309.trans (congrArg some (by kernel_rfl))
 f318:=Tryz.func311.trans (congrArg some (by kernel_rfl))
 f319:=Tryz.func312.trans (congrArg some (by kernel_rfl))
 f320:=Tryz.func313.trans (congrArg some (by kernel_rfl))
 f337:=Tryz.func329.trans (congrArg some (by kernel_rfl))
 f338:=Tryz.func330.trans (congrArg some (by kernel_rfl))
 t0:=Tryz.underlying0
 a0:=Tryz.isAgg0
 z0:=Tryz.sizeOf0
 v0:=Tryz.zeroValue0
 t2:=Tryz.underlying2
 a2:=Tryz.isAgg2
 z2:=Tryz.sizeOf2
 v2:=Tryz.zeroValue2
 t3:=Tryz.underlying3
 a3:=Tryz.isAgg3
 z3:=Tryz.sizeOf3
 v3:=Tryz.zeroValue3
 t4:=Tryz.underlying4
 a4:=Tryz.isAgg4
 z4:=Tryz.sizeOf4
 v4:=Tryz.zeroValue4
 t5:=Tryz.underlying5
 a5:=Tryz.isAgg5
 z5:=Tryz.sizeOf5
 v5:=Tryz.zeroValue5
 t9:=Tryz.underlying9
 a9:=Tryz.isAgg9
 z9:=Tryz.sizeOf9
 v9:=Tryz.zeroValue9
 t20:=Tryz.underlying20
 a20:=Tryz.isAgg20
 z20:=Tryz.sizeOf20
 v20:=Tryz.zeroValue20
 t37:=Tryz.underlying142
 a37:=Tryz.isAgg142
 z37:=Tryz.sizeOf142
 v37:=Tryz.zeroValue142
 t46:=Tryz.underlying362
 a46:=Tryz.isAgg362
 z46:=Tryz.sizeOf362
 v46:=Tryz.zeroValue362
 t51:=Tryz.underlying221
 a51:=Tryz.isAgg221
 z51:=Tryz.sizeOf221
 v51:=Tryz.zeroValue221
 t53:=Tryz.underlying327
 a53:=Tryz.isAgg327
 z53:=Tryz.sizeOf327
 v53:=Tryz.zeroValue327
 t171:=Tryz.underlying326
 a171:=Tryz.isAgg326
 z171:=Tryz.sizeOf326
 v171:=Tryz.zeroValue326
 t173:=Tryz.underlying330
 a173:=Tryz.isAgg330
 z173:=Tryz.sizeOf330
 v173:=Tryz.zeroValue330
 t212:=Tryz.underlying366
 a212:=Tryz.isAgg366
 z212:=Tryz.sizeOf366
 v212:=Tryz.zeroValue366
 t213:=Tryz.underlying367
 a213:=Tryz.isAgg367
 z213:=Tryz.sizeOf367
 t232:=Tryz.underlying408
 a232:=Tryz.isAgg408
 z232:=Tryz.sizeOf408
 v232:=Tryz.zeroValue408
 t233:=Tryz.underlying409
 a233:=Tryz.isAgg409
 z233:=Tryz.sizeOf409
 v233:=Tryz.zeroValue409
 g17:=by kernel_rfl
 g18:=by kernel_rfl
 g19:=by kernel_rfl
 i0:=by kernel_rfl
 i2:=by kernel_rfl
 i3:=by kernel_rfl
 i4:=by kernel_rfl
 i5:=by kernel_rfl
 i9:=by kernel_rfl
 i20:=by kernel_rfl
 i37:=by kernel_rfl
 i46:=by kernel_rfl
 i51:=by kernel_rfl
 i53:=by kernel_rfl
 i171:=by kernel_rfl
 i173:=by kernel_rfl
 i212:=by kernel_rfl
 i232:=by kernel_rfl
 i233:=by kernel_rfl
 m17:=by kernel_rfl
 m18:=by kernel_rfl
 m19:=by kernel_rfl }
open Go.RowKit Go.Sort Go.Lib in
theorem Tryz.strconv_Itoa (n : Int) (h0 : -9223372036854775808 ≤ n) (h1 : n ≤ 9223372036854775807) (w : World) (htab : Lib.TabIs Tryz.prog w "internal/strconv.uint64pow10" .u64 Lib.pow10Tab) :
  Calls Tryz.prog 92 #[.int .i64 n] w fun e w'=>e=.returned (.string ⟨(Lib.itoa n).toArray⟩)∧∃ k os,w'=grow (w.drewN k) os:=Any.strconv_Itoa Tryz.laysM171 n h0 h1 w htab
def Tryz.lays171_ren:Go.Shelf.Ren:=⟨fun|171=>92|243=>164|246=>224|283=>279|284=>280|285=>281|286=>282|129=>310|317=>309|318=>311|319=>312|320=>313|337=>329|338=>330|n=>n,fun|3=>3|9=>9|2=>2|4=>4|171=>326|0=>0|53=>327|37=>142|5=>5|173=>330|212=>366|51=>221|20=>20|213=>367|46=>362|232=>408|233=>409|n=>n,fun|17=>3|18=>7|19=>8|n=>n⟩
theorem Tryz.lays171:Go.Proofs.Lays.n171 Tryz.prog Tryz.lays171_ren:={
 mixed:=by kernel_rfl
 f129:=Tryz.func310.trans (congrArg some (by kernel_rfl))
 f171:=Tryz.func92.trans (congrArg some (by kernel_rfl))
 f243:=Tryz.func164.trans (congrArg some (by kernel_rfl))
 f246:=Tryz.func224.trans (congrArg some (by kernel_rfl))
 f283:=Tryz.func279.trans (congrArg some (by kernel_rfl))
 f284:=Tryz.func280.trans (congrArg some (by kernel_rfl))
 f285:=Tryz.func281.trans (congrArg some (by kernel_rfl))
 f286:=Tryz.func282.trans (congrArg some (by kernel_rfl))
 f317:=Tryz.func309.trans (congrArg some (by kernel_rfl))
 f318:=Tryz.func311.trans (congrArg some (by kernel_rfl))
 f319:=Tryz.func312.trans (congrArg some (by kernel_rfl))
 f320:=Tryz.func313.trans (congrArg some (by kernel_rfl))
 f337:=Tryz.func329.trans (congrArg some (by kernel_rfl))
 f338:=Tryz.func330.trans (congrArg some (by kernel_rfl))
 t0:=Tryz.underlying0
 a0:=Tryz.isAgg0
 z0:=Tryz.sizeOf0
 v0:=Tryz.zeroValue0
 t2:=Tryz.underlying2
 a2:=Tryz.isAgg2
 z2:=Tryz.sizeOf2
 v2:=Tryz.zeroValue2
 t3:=Tryz.underlying3
 a3:=Tryz.isAgg3
 z3:=Tryz.sizeOf3
 v3:=Tryz.zeroValue3
 t4:=Tryz.underlying4
 a4:=Tryz.isAgg4
 z4:=Tryz.sizeOf4
 v4:=Tryz.zeroValue4
 t5:=Tryz.underlying5
 a5:=Tryz.isAgg5
 z5:=Tryz.sizeOf5
 v5:=Tryz.zeroValue5
 t9:=Tryz.underlying9
 a9:=Tryz.isAgg9
 z9:=Tryz.sizeOf9
 v9:=Tryz.zeroValue9
 t20:=Tryz.underlying20
 a20:=Tryz.isAgg20
 z20:=Tryz.sizeOf20
 v20:=Tryz.zeroValue20
 t37:=Tryz.underlying142
 a37:=Tryz.isAgg142
 z37:=Tryz.sizeOf142
 v37:=Tryz.zeroValue142
 t46:=Tryz.underlying362
 a46:=Tryz.isAgg362
 z46:=Tryz.sizeOf362
 v46:=Tryz.zeroValue362
 t51:=Tryz.underlying221
 a51:=Tryz.isAgg221
 z51:=Tryz.sizeOf221
 v51:=Tryz.zeroValue221
 t53:=Tryz.underlying327
 a53:=Tryz.isAgg327
 z53:=Tryz.sizeOf327
 v53:=Tryz.zeroValue327
 t171:=Tryz.underlying326
 a171:=Tryz.isAgg326
 z171:=Tryz.sizeOf326
 v171:=Tryz.zeroValue326
 t173:=Tryz.underlying330
 a173:=Tryz.isAgg330
 z173:=Tryz.sizeOf330
 v173:=Tryz.zeroValue330
 t212:=Tryz.underlying366
 a212:=Tryz.isAgg366
 z212:=Tryz.sizeOf366
 v212:=Tryz.zeroValue366
 t213:=Tryz.underlying367
 a213:=Tryz.isAgg367
 z213:=Tryz.sizeOf367
 t232:=Tryz.underlying408
 a232:=Tryz.isAgg408
 z232:=Tryz.sizeOf408
 v232:=Tryz.zeroValue408
 t233:=Tryz.underlying409
 a233:=Tryz.isAgg409
 z233:=Tryz.sizeOf409
 v233:=Tryz.zeroValue409
 g17:=by kernel_rfl
 g18:=by kernel_rfl
 g19:=by kernel_rfl }
open Go.RowKit Go.Sort Go.Lib in
theorem Tryz.strconv_Itoa_small (i:Nat) (hi:i<100) (w:World) :
  Calls Tryz.prog 92 #[.int .i64 i] w fun e w'=>e=.returned (.string ⟨(Lib.decDigits i).toArray⟩)∧w'=w:=Any.strconv_Itoa_small Tryz.lays171 i hi w
def Tryz.lays138_ren:Go.Shelf.Ren:=⟨fun|138=>259|195=>300|218=>302|143=>260|219=>303|217=>238|225=>324|224=>325|267=>326|266=>294|314=>343|n=>n,fun|9=>9|3=>3|4=>4|5=>5|0=>0|46=>362|146=>406|51=>221|n=>n,fun|1=>4|n=>n⟩
theorem Tryz.lays138:Go.Proofs.Lays.n138 Tryz.prog Tryz.lays138_ren:={
 mixed:=by kernel_rfl
 f138:=Tryz.func259.trans (congrArg some (by kernel_rfl))
 f143:=Tryz.func260.trans (congrArg some (by kernel_rfl))
 f195:=Tryz.func300.trans (congrArg some (by kernel_rfl))
 f217:=Tryz.func238.trans (congrArg some (by kernel_rfl))
 f218:=Tryz.func302.trans (congrArg some (by kernel_rfl))
 f219:=Tryz.func303.trans (congrArg some (by kernel_rfl))
 f224:=Tryz.func325.trans (congrArg some (by kernel_rfl))
 f225:=Tryz.func324.trans (congrArg some (by kernel_rfl))
 f266:=Tryz.func294.trans (congrArg some (by kernel_rfl))
 f267:=Tryz.func326.trans (congrArg some (by kernel_rfl))
 f314:=Tryz.func343.trans (congrArg some (by kernel_rfl))
 t0:=Tryz.underlying0
 a0:=Tryz.isAgg0
 z0:=Tryz.sizeOf0
 v0:=Tryz.zeroValue0
 t3:=Tryz.underlying3
 a3:=Tryz.isAgg3
 z3:=Tryz.sizeOf3
 v3:=Tryz.zeroValue3
 t4:=Tryz.underlying4
 a4:=Tryz.isAgg4
 z4:=Tryz.sizeOf4
 v4:=Tryz.zeroValue4
 t5:=Tryz.underlying5
 a5:=Tryz.isAgg5
 z5:=Tryz.sizeOf5
 v5:=Tryz.zeroValue5
 t9:=Tryz.underlying9
 a9:=Tryz.isAgg9
 z9:=Tryz.sizeOf9
 v9:=Tryz.zeroValue9
 t46:=Tryz.underlying362
 a46:=Tryz.isAgg362
 z46:=Tryz.sizeOf362
 v46:=Tryz.zeroValue362
 t51:=Tryz.underlying221
 a51:=Tryz.isAgg221
 z51:=Tryz.sizeOf221
 v51:=Tryz.zeroValue221
 t146:=Tryz.underlying406
 a146:=Tryz.isAgg406
 z146:=Tryz.sizeOf406
 v146:=Tryz.zeroValue406
 g1:=by kernel_rfl }
open Go.RowKit Go.Lib in
theorem Tryz.strings_Count_one (s:ByteArray) (c:UInt8) (w:World) :
  Calls Tryz.prog 259 #[.string s,.string ⟨#[c]⟩] w fun e w'=>e=.returned (.int .i64 (Lib.countByte s.data.toList c))∧w'=w:=Any.strings_Count_one Tryz.lays138 s c w
end Go.Proofs
/-
  DERIVED: THE SHELF's CONTRACTS AT THIS DUMP, IN PLAIN WORDS (tools/lay-plain.mjs out of 'TryzShelf.lean', which tools/lay-shelf.mjs wrote): THE SAME DECLARATIONS UNDER THE SAME NAMES: 'import', 'namespace', 'open', 'def', 'theorem' AND NOTHING ELSE: no command of the shelf's: FOR A HAND-IN. Each laying: the table of numbers ('.._ren') and one theorem, a field a fact of the dump's own or the kernel's comparison; each contract: ONE APPLICATION.
-/
namespace Go.Proofs
open Go.Shelf
def Tryz.laysC172_ren:Go.Shelf.Ren:=⟨fun|172=>131|244=>194|245=>195|247=>261|279=>262|280=>263|281=>264|282=>265|287=>304|316=>305|171=>92|205=>306|321=>327|322=>328|243=>164|246=>224|283=>279|284=>280|285=>281|286=>282|129=>310|317=>309|318=>311|319=>312|320=>313|337=>329|338=>330|n=>n,fun|9=>9|3=>3|75=>96|76=>183|4=>4|5=>5|167=>312|37=>142|0=>0|85=>313|2=>2|168=>315|53=>327|175=>360|46=>362|210=>364|127=>387|145=>390|143=>388|21=>21|171=>326|173=>330|212=>366|51=>221|20=>20|213=>367|232=>408|233=>409|80=>412|n=>n,fun|15=>1|16=>2|17=>3|18=>7|19=>8|n=>n⟩
theorem Tryz.laysC172:Go.Proofs.LaysC.n172 Tryz.prog Tryz.laysC172_ren:={
 mixed:=by kernel_rfl
 f129:=Tryz.func310.trans (congrArg some (by kernel_rfl))
 f171:=Tryz.func92.trans (congrArg some (by kernel_rfl))
 f172:=Tryz.func131.trans (congrArg some (by kernel_rfl))
 f205:=Tryz.func306.trans (congrArg some (by kernel_rfl))
 f243:=Tryz.func164.trans (congrArg some (by kernel_rfl))
 f244:=Tryz.func194.trans (congrArg some (by kernel_rfl))
 f245:=Tryz.func195.trans (congrArg some (by kernel_rfl))
 f246:=Tryz.func224.trans (congrArg some (by kernel_rfl))
 f247:=Tryz.func261.trans (congrArg some (by kernel_rfl))
 f279:=Tryz.func262.trans (congrArg some (by kernel_rfl))
 f280:=Tryz.func263.trans (congrArg some (by kernel_rfl))
 f281:=Tryz.func264.trans (congrArg some (by kernel_rfl))
 f282:=Tryz.func265.trans (congrArg some (by kernel_rfl))
 f283:=Tryz.func279.trans (congrArg some (by kernel_rfl))
 f284:=Tryz.func280.trans (congrArg some (by kernel_rfl))
 f285:=Tryz.func281.trans (congrArg some (by kernel_rfl))
 f286:=Tryz.func282.trans (congrArg some (by kernel_rfl))
 f287:=Tryz.func304.trans (congrArg some (by kernel_rfl))
 f316:=Tryz.func305.trans (congrArg some (by kernel_rfl))
 f317:=Tryz.func309.trans (congrArg some (by kernel_rfl))
 f318:=Tryz.func311.trans (congrArg some (by kernel_rfl))
 f319:=Tryz.func312.trans (congrArg some (by kernel_rfl))
 f320:=Tryz.func313.trans (congrArg some (by kernel_rfl))
 f321:=Tryz.func327.trans (congrArg some (by kernel_rfl))
 f322:=Tryz.func328.trans (congrArg some (by kernel_rfl))
 f337:=Tryz.func329.trans (congrArg some (by kernel_rfl))
 f338:=Tryz.func330.trans (congrArg some (by kernel_rfl))
 t0:=Tryz.underlying0
 a0:=Tryz.isAgg0
 z0:=Tryz.sizeOf0
 v0:=Tryz.zeroValue0
 t2:=Tryz.underlying2
 a2:=Tryz.isAgg2
 z2:=Tryz.sizeOf2
 v2:=Tryz.zeroValue2
 t3:=Tryz.underlying3
 a3:=Tryz.isAgg3
 z3:=Tryz.sizeOf3
 v3:=Tryz.zeroValue3
 t4:=Tryz.underlying4
 a4:=Tryz.isAgg4
 z4:=Tryz.sizeOf4
 v4:=Tryz.zeroValue4
 t5:=Tryz.underlying5
 a5:=Tryz.isAgg5
 z5:=Tryz.sizeOf5
 v5:=Tryz.zeroValue5
 t9:=Tryz.underlying9
 a9:=Tryz.isAgg9
 z9:=Tryz.sizeOf9
 v9:=Tryz.zeroValue9
 t20:=Tryz.underlying20
 a20:=Tryz.isAgg20
 z20:=Tryz.sizeOf20
 v20:=Tryz.zeroValue20
 t21:=Tryz.underlying21
 a21:=Tryz.isAgg21
 z21:=Tryz.sizeOf21
 v21:=Tryz.zeroValue21
 t37:=Tryz.underlying142
 a37:=Tryz.isAgg142
 z37:=Tryz.sizeOf142
 v37:=Tryz.zeroValue142
 t46:=Tryz.underlying362
 a46:=Tryz.isAgg362
 z46:=Tryz.sizeOf362
 v46:=Tryz.zeroValue362
 t51:=Tryz.underlying221
 a51:=Tryz.isAgg221
 z51:=Tryz.sizeOf221
 v51:=Tryz.zeroValue221
 t53:=Tryz.underlying327
 a53:=Tryz.isAgg327
 z53:=Tryz.sizeOf327
 v53:=Tryz.zeroValue327
 t75:=Tryz.underlying96
 a75:=Tryz.isAgg96
 z75:=Tryz.sizeOf96
 v75:=Tryz.zeroValue96
 t76:=Tryz.underlying183
 a76:=Tryz.isAgg183
 z76:=Tryz.sizeOf183
 v76:=Tryz.zeroValue183
 t85:=Tryz.underlying313
 a85:=Tryz.isAgg313
 z85:=Tryz.sizeOf313
 v85:=Tryz.zeroValue313
 t127:=Tryz.underlying387
 a127:=Tryz.isAgg387
 z127:=Tryz.sizeOf387
 v127:=Tryz.zeroValue387
 t143:=Tryz.underlying388
 a143:=Tryz.isAgg388
 z143:=Tryz.sizeOf388
 v143:=Tryz.zeroValue388
 t145:=Tryz.underlying390
 a145:=Tryz.isAgg390
 z145:=Tryz.sizeOf390
 v145:=Tryz.zeroValue390
 t167:=Tryz.underlying312
 a167:=Tryz.isAgg312
 z167:=Tryz.sizeOf312
 v167:=Tryz.zeroValue312
 t168:=Tryz.underlying315
 a168:=Tryz.isAgg315
 z168:=Tryz.sizeOf315
 v168:=Tryz.zeroValue315
 t171:=Tryz.underlying326
 a171:=Tryz.isAgg326
 z171:=Tryz.sizeOf326
 v171:=Tryz.zeroValue326
 t173:=Tryz.underlying330
 a173:=Tryz.isAgg330
 z173:=Tryz.sizeOf330
 v173:=Tryz.zeroValue330
 t175:=Tryz.underlying360
 a175:=Tryz.isAgg360
 z175:=Tryz.sizeOf360
 v175:=Tryz.zeroValue360
 t210:=Tryz.underlying364
 a210:=Tryz.isAgg364
 z210:=Tryz.sizeOf364
 v210:=Tryz.zeroValue364
 t212:=Tryz.underlying366
 a212:=Tryz.isAgg366
 z212:=Tryz.sizeOf366
 v212:=Tryz.zeroValue366
 t213:=Tryz.underlying367
 a213:=Tryz.isAgg367
 z213:=Tryz.sizeOf367
 t232:=Tryz.underlying408
 a232:=Tryz.isAgg408
 z232:=Tryz.sizeOf408
 v232:=Tryz.zeroValue408
 t233:=Tryz.underlying409
 a233:=Tryz.isAgg409
 z233:=Tryz.sizeOf409
 v233:=Tryz.zeroValue409
 g15:=by kernel_rfl
 g16:=by kernel_rfl
 g17:=by kernel_rfl
 g18:=by kernel_rfl
 g19:=by kernel_rfl
 t80:=Tryz.underlying412
 a80:=Tryz.isAgg412
 z80:=Tryz.sizeOf412
 v80:=Tryz.zeroValue412
 i0:=by kernel_rfl
 i2:=by kernel_rfl
 i3:=by kernel_rfl
 i4:=by kernel_rfl
 i5:=by kernel_rfl
 i9:=by kernel_rfl
 i20:=by kernel_rfl
 i21:=by kernel_rfl
 i37:=by kernel_rfl
 i46:=by kernel_rfl
 i51:=by kernel_rfl
 i53:=by kernel_rfl
 i75:=by kernel_rfl
 i76:=by kernel_rfl
 i80:=by kernel_rfl
 i85:=by kernel_rfl
 i127:=by kernel_rfl
 i143:=by kernel_rfl
 i145:=by kernel_rfl
 i167:=by kernel_rfl
 i168:=by kernel_rfl
 i171:=by kernel_rfl
 i173:=by kernel_rfl
 i175:=by kernel_rfl
 i210:=by kernel_rfl
 i212:=by kernel_rfl
 i232:=by kernel_rfl
 i233:=by kernel_rfl
 m15:=by kernel_rfl
 m16:=by kernel_rfl
 m17:=by kernel_rfl
 m18:=by kernel_rfl
 m19:=by kernel_rfl
 c0:=by kernel_rfl
 c2:=by kernel_rfl
 c3:=by kernel_rfl
 c4:=by kernel_rfl
 c5:=by kernel_rfl
 c9:=by kernel_rfl
 c20:=by kernel_rfl
 c21:=by kernel_rfl
 c37:=by kernel_rfl
 c46:=by kernel_rfl
 c51:=by kernel_rfl
 c53:=by kernel_rfl
 c75:=by kernel_rfl
 c76:=by kernel_rfl
 c80:=by kernel_rfl
 c85:=by kernel_rfl
 c127:=by kernel_rfl
 c143:=by kernel_rfl
 c145:=by kernel_rfl
 c167:=by kernel_rfl
 c168:=by kernel_rfl
 c171:=by kernel_rfl
 c173:=by kernel_rfl
 c175:=by kernel_rfl
 c210:=by kernel_rfl
 c212:=by kernel_rfl
 c213:=by kernel_rfl
 c232:=by kernel_rfl
 c233:=by kernel_rfl }
open Go.RowKit in
theorem Tryz.strconv_Atoi_ok (s:ByteArray) (hmax:s.size≤9223372036854775806) (v:Int) (h:Lib.atoiAll s.data.toList=.ok v) (w:World) :
  Calls Tryz.prog 131 #[.string s] w fun e w'=>e=.returned (.tuple #[.int .i64 v,.nilIface])∧(w'=w∨∃ t,w'=Lib.bytesWorld w 5 t):=Any.strconv_Atoi_ok Tryz.laysC172 s hmax v h w
open Go.RowKit in
theorem Tryz.strconv_Atoi_syntax (s:ByteArray) (hlim:s.size≤281474976710656) (h:Lib.atoiAll s.data.toList=Lib.atoiAll []) (ev:Value) (w:World) (hv:w.cell? ⟨1,0,none⟩=some ev) (hev:ev=.nilIface∨∃ te pe,ev=.iface te pe) :
  Calls Tryz.prog 131 #[.string s] w fun e w'=>∃ N,e=.returned (.tuple #[.int .i64 (0),.iface 315 (.pointer (some ⟨N,0,none⟩))])∧w.heap.size≤N∧w'.heap[N]?=some (.cells #[.string ⟨#[65,116,111,105]⟩,.string s,ev] 364 (0,0))∧Below w.heap.size w w':=Any.strconv_Atoi_syntax Tryz.laysC172 s hlim h ev w hv hev
open Go.RowKit in
theorem Tryz.strconv_Atoi_range (s:ByteArray) (hlim:s.size≤281474976710656) (h:Lib.atoiAll s.data.toList=.range) (ev:Value) (w:World) (hv:w.cell? ⟨2,0,none⟩=some ev) (hev:ev=.nilIface∨∃ te pe,ev=.iface te pe) :
  Calls Tryz.prog 131 #[.string s] w fun e w'=>∃ N,e=.returned (.tuple #[.int .i64 (Lib.atoiSat s.data.toList),.iface 315 (.pointer (some ⟨N,0,none⟩))])∧w.heap.size≤N∧w'.heap[N]?=some (.cells #[.string ⟨#[65,116,111,105]⟩,.string s,ev] 364 (0,0))∧Below w.heap.size w w':=Any.strconv_Atoi_range Tryz.laysC172 s hlim h ev w hv hev
def Tryz.laysM146_ren:Go.Shelf.Ren:=⟨fun|146=>130|221=>193|268=>258|138=>259|143=>260|195=>300|197=>301|218=>302|219=>303|260=>323|217=>238|225=>324|224=>325|267=>326|266=>294|314=>343|n=>n,fun|9=>9|31=>176|3=>3|4=>4|0=>0|105=>358|21=>21|5=>5|46=>362|119=>340|139=>405|138=>404|146=>406|51=>221|n=>n,fun|1=>4|3=>5|4=>6|n=>n⟩
theorem Tryz.laysM146:Go.Proofs.LaysM.n146 Tryz.prog Tryz.laysM146_ren:={
 mixed:=by kernel_rfl
 f138:=Tryz.func259.trans (congrArg some (by kernel_rfl))
 f143:=Tryz.func260.trans (congrArg some (by kernel_rfl))
 f146:=Tryz.func130.trans (congrArg some (by kernel_rfl))
 f195:=Tryz.func300.trans (congrArg some (by kernel_rfl))
 f197:=Tryz.func301.trans (congrArg some (by kernel_rfl))
 f217:=Tryz.func238.trans (congrArg some (by kernel_rfl))
 f218:=Tryz.func302.trans (congrArg some (by kernel_rfl))
 f219:=Tryz.func303.trans (congrArg some (by kernel_rfl))
 f221:=Tryz.func193.trans (congrArg some (by kernel_rfl))
 f224:=Tryz.func325.trans (congrArg some (by kernel_rfl))
 f225:=Tryz.func324.trans (congrArg some (by kernel_rfl))
 f260:=Tryz.func323.trans (congrArg some (by kernel_rfl))
 f266:=Tryz.func294.trans (congrArg some (by kernel_rfl))
 f267:=Tryz.func326.trans (congrArg some (by kernel_rfl))
 f268:=Tryz.func258.trans (congrArg some (by kernel_rfl))
 f314:=Tryz.func343.trans (congrArg some (by kernel_rfl))
 t0:=Tryz.underlying0
 a0:=Tryz.isAgg0
 z0:=Tryz.sizeOf0
 v0:=Tryz.zeroValue0
 t3:=Tryz.underlying3
 a3:=Tryz.isAgg3
 z3:=Tryz.sizeOf3
 v3:=Tryz.zeroValue3
 t4:=Tryz.underlying4
 a4:=Tryz.isAgg4
 z4:=Tryz.sizeOf4
 v4:=Tryz.zeroValue4
 t5:=Tryz.underlying5
 a5:=Tryz.isAgg5
 z5:=Tryz.sizeOf5
 v5:=Tryz.zeroValue5
 t9:=Tryz.underlying9
 a9:=Tryz.isAgg9
 z9:=Tryz.sizeOf9
 v9:=Tryz.zeroValue9
 t21:=Tryz.underlying21
 a21:=Tryz.isAgg21
 z21:=Tryz.sizeOf21
 v21:=Tryz.zeroValue21
 t31:=Tryz.underlying176
 a31:=Tryz.isAgg176
 z31:=Tryz.sizeOf176
 v31:=Tryz.zeroValue176
 t46:=Tryz.underlying362
 a46:=Tryz.isAgg362
 z46:=Tryz.sizeOf362
 v46:=Tryz.zeroValue362
 t51:=Tryz.underlying221
 a51:=Tryz.isAgg221
 z51:=Tryz.sizeOf221
 v51:=Tryz.zeroValue221
 t105:=Tryz.underlying358
 a105:=Tryz.isAgg358
 z105:=Tryz.sizeOf358
 v105:=Tryz.zeroValue358
 t119:=Tryz.underlying340
 a119:=Tryz.isAgg340
 z119:=Tryz.sizeOf340
 t138:=Tryz.underlying404
 a138:=Tryz.isAgg404
 z138:=Tryz.sizeOf404
 v138:=Tryz.zeroValue404
 t139:=Tryz.underlying405
 a139:=Tryz.isAgg405
 z139:=Tryz.sizeOf405
 v139:=Tryz.zeroValue405
 t146:=Tryz.underlying406
 a146:=Tryz.isAgg406
 z146:=Tryz.sizeOf406
 v146:=Tryz.zeroValue406
 g1:=by kernel_rfl
 g3:=by kernel_rfl
 g4:=by kernel_rfl
 i0:=by kernel_rfl
 i3:=by kernel_rfl
 i4:=by kernel_rfl
 i5:=by kernel_rfl
 i9:=by kernel_rfl
 i21:=by kernel_rfl
 i31:=by kernel_rfl
 i46:=by kernel_rfl
 i51:=by kernel_rfl
 i105:=by kernel_rfl
 i138:=by kernel_rfl
 i139:=by kernel_rfl
 i146:=by kernel_rfl
 m1:=by kernel_rfl
 s1_3:=fun w h=>Go.Proofs.cell_of_shapedOpen_int (zero:=#[.int .i64 0]) (t:=3) h (of_decide_eq_true (by kernel_rfl)) (by kernel_rfl) rfl (by kernel_rfl) (by kernel_rfl) Tryz.underlying3
 m3:=by kernel_rfl
 m4:=by kernel_rfl }
end Go.Proofs
/-
  Walks of the printers of terms, the program's. Own work.
-/
namespace Go.Proofs.YtbljmfcifljkaaaGreatDoor
open Go.RowKit
def trV:Tr → Value
 | .leaf n=>.iface 351 (.agg #[.int .i64 n.kind,.int .i64 n.value,.string n.name])
 | .seq a b=>.iface 348 (.agg #[trV a,trV b])
 | .par a b=>.iface 349 (.agg #[trV a,trV b])
theorem trV_iface (t:Tr):∃ T a,trV t=.iface T (.agg a):=by
 cases t <;> exact ⟨_,_,rfl⟩
def z2:Value:=.agg #[.nilIface,.nilIface]
def z3:Value:=.agg #[.int .i64 0,.int .i64 0,.string ⟨#[]⟩]
section
variable (a:Array Value) (w:World)
theorem ta_leaf_seq:Sem.run Tryz.prog (Instr.typeAssert (.iface 351 (.agg a)) 291 348 true) w=.ok (.tuple #[.agg #[.nilIface,.nilIface],.bool false]) w:=by kernel_rfl
theorem ta_seq_seq:Sem.run Tryz.prog (Instr.typeAssert (.iface 348 (.agg a)) 291 348 true) w=.ok (.tuple #[.agg a,.bool true]) w:=by kernel_rfl
theorem ta_par_seq:Sem.run Tryz.prog (Instr.typeAssert (.iface 349 (.agg a)) 291 348 true) w=.ok (.tuple #[.agg #[.nilIface,.nilIface],.bool false]) w:=by kernel_rfl
theorem ta_leaf_par:Sem.run Tryz.prog (Instr.typeAssert (.iface 351 (.agg a)) 291 349 true) w=.ok (.tuple #[.agg #[.nilIface,.nilIface],.bool false]) w:=by kernel_rfl
theorem ta_par_par:Sem.run Tryz.prog (Instr.typeAssert (.iface 349 (.agg a)) 291 349 true) w=.ok (.tuple #[.agg a,.bool true]) w:=by kernel_rfl
theorem ta_leaf_leaf:Sem.run Tryz.prog (Instr.typeAssert (.iface 351 (.agg a)) 291 351 true) w=.ok (.tuple #[.agg a,.bool true]) w:=by kernel_rfl
end
theorem itoa_any (v:Int) (w:World) (h0:0≤v) (h1:v≤96) :
  Calls Tryz.prog 92 #[.int .i64 v] w fun e w'=>e=.returned (.string (numT v))∧w=w':=by
 obtain ⟨k,rfl⟩:=Int.eq_ofNat_of_zero_le h0
 exact (Tryz.strconv_Itoa_small k (by omega) w).mono fun e w' h=>⟨h.1,h.2.symm⟩
end Go.Proofs.YtbljmfcifljkaaaGreatDoor
