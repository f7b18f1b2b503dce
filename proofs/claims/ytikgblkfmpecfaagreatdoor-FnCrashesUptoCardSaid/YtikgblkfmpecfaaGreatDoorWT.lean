/-
  Trees of nodes and their texts, no program in sight. Own work.
-/
import Derived.Test.YtikgblkfmpecfaaGreatDoorWF
import Derived.Test.YtikgblkfmpecfaaGreatDoorWC
import Derived.Lib.ItoaNum
import Derived.Shelf.Small.Strs
import Derived.Shelf.Small.Wraps
import Derived.Shelf.Strconv.Atoi
import Derived.Shelf.Strconv.Itoa0
import Derived.Shelf.Strconv.Itoa1
import Derived.Shelf.LaysM
import Derived.Shelf.Strconv.Itoa2
import Derived.Shelf.Strconv.Itoa3
import Derived.Shelf.Strings.Search1
import Derived.Shelf.Strings.Search2
import Derived.Shelf.Strings.Cut
import Derived.Shelf.Strings.Shaped
import Derived.Shelf.Strings.LastIndex
import Derived.Shelf.Strings.LastIndexAll
import Derived.Shelf.Strings.Prefix
import Derived.Test.YtikgblkfmpecfaaGreatDoorProg
import Derived.Test.YtikgblkfmpecfaaGreatDoorWB
import Derived.KernelRfl
set_option linter.all false
set_option maxRecDepth 100000
set_option maxHeartbeats 8000000
namespace Go.Proofs.YtikgblkfmpecfaaGreatDoor
open Go.RowKit
inductive Tr where
 | leaf (n:Nd)
 | seq (a b:Tr)
 | par (a b:Tr)
def Tr.iP:Tr->Bool
 | .seq _ _=>true
 | _=>false
def Tr.iy:Tr->Bool
 | .par _ _=>true
 | _=>false
def Tr.count:Tr->Nat
 | .leaf _=>1
 | .seq a b=>a.count+b.count+1
 | .par a b=>a.count+b.count+1
def Tr.top:Tr->Int
 | .leaf n=>n.kind
 | .seq _ _=>15
 | .par _ _=>16
def wH (n:Nd):Prop:=(n.kind=17/\n.name.size<=8)\/(1<=n.kind/\n.kind<=14/\0<=n.value/\n.value<=96)
def Tr.Ok:Tr->Prop
 | .leaf n=>wH n
 | .seq a b=>a.Ok/\b.Ok
 | .par a b=>a.Ok/\b.Ok
def bZ:List Nd->List Tr->Option (List Tr)
 | [],st=>some st
 | n::r,st =>
  if n.kind=15 then
   (match st with
   | b::a::st'=>bZ r (.seq a b::st')
   | _=>none)
  else if n.kind=16 then
   (match st with
   | b::a::st'=>bZ r (.par a b::st')
   | _=>none)
  else bZ r (.leaf n::st)
theorem Ed {n:Nd} {r:List Nd} {a b:Tr} {st:List Tr} (h:n.kind=15):bZ (n::r) (b::a::st)=bZ r (.seq a b::st):=by
 conv=>lhs;unfold bZ
 rw[if_pos h]
theorem Ee {n:Nd} {r:List Nd} {a b:Tr} {st:List Tr} (h:n.kind=16):bZ (n::r) (b::a::st)=bZ r (.par a b::st):=by
 conv=>lhs;unfold bZ
 rw[if_neg (by omega),if_pos h]
theorem Ef {n:Nd} {r:List Nd} {st:List Tr} (h:¬(n.kind=15\/n.kind=16)):bZ (n::r) st=bZ r (.leaf n::st):=by
 conv=>lhs;unfold bZ
 rw[if_neg (by omega),if_neg (by omega)]
theorem wM {n:Nd} {r:List Nd} {st:List Tr} (h:n.kind=15\/n.kind=16) (hs:st.length<2):bZ (n::r) st=none:=by
 unfold bZ;match st,hs with
 | [],_=>split<;>first|rfl|(split<;>first|rfl|omega)
 | [a],_=>split<;>first|rfl|(split<;>first|rfl|omega)
def ni (st:List Tr):Nat:=(st.map Tr.count).sum
theorem agi {L:List Df} (h8:∀d∈L,d.name.size<=8) {n:Nd} {x:W2} (h:aO L n=some x):wH n/\¬(n.kind=15\/n.kind=16):=by
 unfold aO at h;split at h
 ·rename_i hk
  split at h
  ·refine⟨.inl ⟨hk,?_⟩,by omega⟩;cases hf:findD L n.name with
   | none=>rw[hf]at h;cases h
   | some d =>
    unfold findD at hf
    have h1:=List.mem_of_find?_eq_some hf
    have h2:=List.find?_some hf
    simp only[decide_eq_true_eq]at h2
    rw[<-h2];exact h8 d h1
  ·cases h
 ·split at h
  ·rename_i hl
   simp only[gB,Bool.and_eq_true,decide_eq_true_eq]at hl;obtain⟨⟨⟨h0,h1⟩,h2⟩,h3⟩:=hl;refine⟨.inr ⟨h1,h2,?_⟩,by omega⟩;split at h3
   ·simp only[Bool.and_eq_true,decide_eq_true_eq]at h3;omega
   ·split at h3
    ·simp only[Bool.and_eq_true,decide_eq_true_eq]at h3;omega
    ·simp only[decide_eq_true_eq]at h3;omega
  ·cases h
theorem MH {L:List Df} (h8:∀d∈L,d.name.size<=8):∀(ns:List Nd) (st st':List W2) (ts:List Tr),bU (aO L) ns st=some st'->ts.length=st.length->(∀t∈ts,t.Ok) ->
  ∃ts',bZ ns ts=some ts'/\ts'.length=st'.length/\(∀t∈ts',t.Ok)/\ni ts'=ni ts+ns.length
 | [],st,st',ts,h,hl,ho=>by
  simp only[bU,Option.some.injEq]at h;subst h;exact⟨ts,rfl,hl,ho,by simp⟩
 | n::r,st,st',ts,h,hl,ho=>by
  by_cases hk:n.kind=15\/n.kind=16
  ·unfold bU at h;rw[if_pos hk]at h;split at h
   ·split at h
    ·rename_i b a st0
     split at h
     ·rename_i x hx
      match ts,hl,ho with
      | tb::ta::GV,hl,ho =>
       have hta:ta.Ok:=ho ta (by simp)
       have htb:tb.Ok:=ho tb (by simp)
       rcases hk with hk|hk
       ·rw[Ed hk]
        obtain⟨ts',h1,h2,h3,h4⟩:=MH h8 r _ st' (.seq ta tb::GV) h (by simp at hl ⊢;omega) (by
         intro t ht;rcases List.mem_cons.1 ht with rfl|ht
         ·exact⟨hta,htb⟩
         ·exact ho t (by simp[ht]))
        exact⟨ts',h1,h2,h3,by rw[h4];simp[ni,Tr.count];omega⟩
       ·rw[Ee hk]
        obtain⟨ts',h1,h2,h3,h4⟩:=MH h8 r _ st' (.par ta tb::GV) h (by simp at hl ⊢;omega) (by
         intro t ht;rcases List.mem_cons.1 ht with rfl|ht
         ·exact⟨hta,htb⟩
         ·exact ho t (by simp[ht]))
        exact⟨ts',h1,h2,h3,by rw[h4];simp[ni,Tr.count];omega⟩
     ·cases h
    ·cases h
   ·cases h
  ·unfold bU at h;rw[if_neg hk]at h;split at h
   ·rename_i x hx
    rw[Ef hk];obtain⟨ts',h1,h2,h3,h4⟩:=MH h8 r _ st' (.leaf n::ts) h (by simp;omega) (by
     intro t ht;rcases List.mem_cons.1 ht with rfl|ht
     ·exact(agi h8 hx).1
     ·exact ho t ht)
    exact⟨ts',h1,h2,h3,by rw[h4];simp[ni,Tr.count];omega⟩
   ·cases h
theorem LG {L:List Df} (h8:∀d∈L,d.name.size<=8) {ns:List Nd} {x:W2} (h:aS (aO L) ns=some x):∃t,bZ ns []=some [t]/\t.Ok/\t.count<=400:=by
 have hlen:=Am h;unfold aS at h;split at h
 ·split at h
  ·rename_i y hy
   obtain⟨ts,h1,h2,h3,h4⟩:=MH h8 ns [] _ [] hy rfl (by simp);match ts,h2 with
   | [t],_=>exact⟨t,h1,h3 t (by simp),by simp[ni]at h4;omega⟩
  ·cases h
 ·cases h
def GK:ByteArray:=⟨#[40]⟩
def GL:ByteArray:=⟨#[41]⟩
def BI:ByteArray:=⟨#[32,59,32]⟩
def BJ:ByteArray:=⟨#[32,42,32]⟩
def iH:ByteArray:=⟨#[32]⟩
def kT:ByteArray:=⟨#[32,61,32]⟩
def eG (v:Int):ByteArray:=⟨(Lib.decDigits v.toNat).toArray⟩
def word (k:Int):ByteArray:=kN.getD k.toNat ⟨#[]⟩
def jr (n:Nd):ByteArray:=if n.kind=17 then n.name else if n.kind=1\/n.kind=7\/n.kind=13 then word n.kind++iH++eG n.value else word n.kind
def brk (s:ByteArray) (b:Bool):ByteArray:=if b then GK++s++GL else s
def aV (full:Bool):Tr->ByteArray
 | .leaf n=>jr n
 | .seq a b=>brk (aV full a) (full&&(a.iP || a.iy))++BI++brk (aV full b) (b.iP || full&&b.iy)
 | .par a b=>brk (aV full a) (a.iP || full&&a.iy)++BJ++brk (aV full b) (b.iP || b.iy)
theorem bsize (a b:ByteArray):(a++b).size=a.size+b.size:=ByteArray.size_append
theorem mD (s:ByteArray) (b:Bool):(brk s b).size<=s.size+2:=by
 unfold brk;split
 ·simp only[bsize,show GK.size=1 from rfl,show GL.size=1 from rfl];omega
 ·omega
theorem agj {n:Nat} (h:n<100):(Lib.decDigits n).length<=2:=by
 by_cases h1:n<10
 ·rw[Lib.decDigits,dif_pos h1];simp
 ·rw[Lib.decDigits,dif_neg h1,Lib.decDigits,dif_pos (by omega)];simp
theorem Il {v:Int} (h0:0<=v) (h:v<=96):(eG v).size<=2:=by
 have:=agj (n:=v.toNat) (by omega);simpa[eG,ByteArray.size]using this
theorem Io (k:Int):(word k).size<=9:=by
 unfold word;have h:∀x∈kN,x.size<=9:=by decide
 rw[List.getD_eq_getElem?_getD];cases hk:kN[k.toNat]? with
 | none=>decide
 | some x=>exact h x (List.mem_of_getElem? hk)
theorem aai {n:Nd} (h:wH n):(jr n).size<=12:=by
 unfold jr;rcases h with⟨h1,h2⟩|⟨h1,h2,h3,h4⟩
 ·rw[if_pos h1];omega
 ·rw[if_neg (by omega)];have:=Io n.kind;have:=Il h3 h4;split
  ·simp only[bsize,show iH.size=1 from rfl];omega
  ·omega
theorem ou (full:Bool):∀(t:Tr),t.Ok->(aV full t).size<=12*t.count
 | .leaf n,h=>by have:=aai h;simp only[aV,Tr.count];omega
 | .seq a b,h=>by
  have h1:=ou full a h.1;have h2:=ou full b h.2;have h3:=mD (aV full a) (full&&(a.iP || a.iy));have h4:=mD (aV full b) (b.iP || full&&b.iy);simp only[aV,Tr.count,bsize,show BI.size=3 from rfl];omega
 | .par a b,h=>by
  have h1:=ou full a h.1;have h2:=ou full b h.2;have h3:=mD (aV full a) (a.iP || full&&a.iy);have h4:=mD (aV full b) (b.iP || b.iy);simp only[aV,Tr.count,bsize,show BJ.size=3 from rfl];omega
def qE (ns:List Nd):Tr:=((bZ ns []).getD []).headD (.leaf ⟨0,0,⟨#[]⟩⟩)
theorem EK {ns:List Nd} {t:Tr} (h:bZ ns []=some [t]):qE ns=t:=by simp[qE,h]
def Ia:ByteArray:=⟨#[108,101,116,32]⟩
def Ib:ByteArray:=⟨#[100,114,111,112,32]⟩
def bName:ByteArray:=⟨#[110,97,109,101,32]⟩
def aH (e:En):ByteArray :=
 if e.kind=1 then Ia++(e.name++kT++aV false (qE e.body))else if e.kind=2 then Ib++e.name else bName++(e.name++iH++e.to)
def chk:List UInt8->Int->Int
 | [],n=>n
 | b::r,n=>chk r ((131*n+b.toNat+1) % 65521)
def fO (s:ByteArray):Int:=chk s.data.toList 7
theorem Qb:∀(l:List UInt8) (n:Int),0<=n->n<=65520->0<=chk l n/\chk l n<=65520
 | [],n,h0,h1=>⟨h0,h1⟩
 | b::r,n,h0,h1=>Qb r _ (by omega) (by omega)
theorem D_ (s:ByteArray):0<=fO s/\fO s<=65520:=Qb _ _ (by omega) (by omega)
def LV:ByteArray:=⟨#[32,35]⟩
def LW:ByteArray:=⟨#[10]⟩
def dV (s:ByteArray):ByteArray:=s++LV++eG (fO s)++LW
def j_:List Df->ByteArray->List En->Option ByteArray
 | _,out,[]=>some out
 | L,out,e::r =>
  match aJ L e with
  | none=>none
  | some R=>j_ R (out++dV (aH e)) r
def iI (es:List En):Option ByteArray :=
 if es.length<=60 then
  (match j_ [] ⟨#[]⟩ es with
  | some s=>if s.size<=60000 then some s else none
  | none=>none)
 else none
end Go.Proofs.YtikgblkfmpecfaaGreatDoor
namespace Go.Proofs
open Go.Shelf
def Tryz.lays137_ren:Go.Shelf.Ren:=⟨fun|137=>151|217=>188|266=>203|n=>n,fun|9=>9|5=>5|3=>3|n=>n,fun|n=>n⟩
theorem Tryz.lays137:Go.Proofs.Lays.n137 Tryz.prog Tryz.lays137_ren:={
 mixed:=by kernel_rfl
 f137:=Tryz.func151.trans (congrArg some (by kernel_rfl))
 f217:=Tryz.func188.trans (congrArg some (by kernel_rfl))
 f266:=Tryz.func203.trans (congrArg some (by kernel_rfl))
 t3:=Tryz.underlying3
 a3:=Tryz.isAgg3
 z3:=Tryz.sizeOf3
 v3:=Tryz.zeroValue3
 t5:=Tryz.underlying5
 a5:=Tryz.isAgg5
 z5:=Tryz.sizeOf5
 v5:=Tryz.zeroValue5
 t9:=Tryz.underlying9
 a9:=Tryz.isAgg9
 z9:=Tryz.sizeOf9
 v9:=Tryz.zeroValue9 }
open Go.RowKit in
theorem Tryz.strings_IndexByte (s:ByteArray) (c:Int) (w:World) :
  Calls Tryz.prog 151 #[.string s,.int .u8 c] w λe w'=>e=.returned (.int .i64 (Lib.indexByte s.data.toList c.toNat.toUInt8))/\w'=w:=Any.strings_IndexByte Tryz.lays137 s c w
def Tryz.lays103_ren:Go.Shelf.Ren:=⟨fun|103=>63|210=>128|206=>177|n=>n,fun|9=>9|4=>4|24=>30|3=>3|n=>n,fun|n=>n⟩
theorem Tryz.lays103:Go.Proofs.Lays.n103 Tryz.prog Tryz.lays103_ren:={
 mixed:=by kernel_rfl
 f103:=Tryz.func63.trans (congrArg some (by kernel_rfl))
 f206:=Tryz.func177.trans (congrArg some (by kernel_rfl))
 f210:=Tryz.func128.trans (congrArg some (by kernel_rfl))
 t3:=Tryz.underlying3
 a3:=Tryz.isAgg3
 z3:=Tryz.sizeOf3
 v3:=Tryz.zeroValue3
 t4:=Tryz.underlying4
 a4:=Tryz.isAgg4
 z4:=Tryz.sizeOf4
 v4:=Tryz.zeroValue4
 t9:=Tryz.underlying9
 a9:=Tryz.isAgg9
 z9:=Tryz.sizeOf9
 v9:=Tryz.zeroValue9
 t24:=Tryz.underlying30
 a24:=Tryz.isAgg30
 z24:=Tryz.sizeOf30
 v24:=Tryz.zeroValue30 }
open Go.RowKit in
theorem Tryz.strings_CutPrefix (s p:ByteArray) (w:World) :
  Calls Tryz.prog 63 #[.string s,.string p] w λe w'=>e=.returned (.tuple #[.string ⟨(Lib.trimPrefix s.data.toList p.data.toList).toArray⟩,.bool (Lib.hasPrefix s.data.toList p.data.toList)])/\w'=w:=Any.strings_CutPrefix Tryz.lays103 s p w
def Tryz.lays172_ren:Go.Shelf.Ren:=⟨fun|172=>216|244=>223|245=>224|247=>227|279=>228|280=>229|281=>230|282=>231|287=>232|316=>233|171=>131|205=>234|321=>235|322=>236|243=>180|246=>201|283=>212|284=>213|285=>214|286=>215|129=>219|317=>218|318=>220|319=>221|320=>222|337=>225|338=>226|n=>n,fun|9=>9|3=>3|75=>81|76=>268|4=>4|5=>5|167=>276|37=>22|0=>0|85=>277|2=>2|168=>279|53=>65|175=>284|46=>189|210=>287|127=>289|145=>292|143=>290|21=>21|171=>263|173=>266|212=>271|51=>259|20=>20|213=>272|232=>282|233=>283|80=>293|n=>n,fun|15=>6|16=>7|17=>3|18=>4|19=>5|n=>n⟩
theorem Tryz.lays172:Go.Proofs.Lays.n172 Tryz.prog Tryz.lays172_ren:={
 mixed:=by kernel_rfl
 f129:=Tryz.func219.trans (congrArg some (by kernel_rfl))
 f171:=Tryz.func131.trans (congrArg some (by kernel_rfl))
 f172:=Tryz.func216.trans (congrArg some (by kernel_rfl))
 f205:=Tryz.func234.trans (congrArg some (by kernel_rfl))
 f243:=Tryz.func180.trans (congrArg some (by kernel_rfl))
 f244:=Tryz.func223.trans (congrArg some (by kernel_rfl))
 f245:=Tryz.func224.trans (congrArg some (by kernel_rfl))
 f246:=Tryz.func201.trans (congrArg some (by kernel_rfl))
 f247:=Tryz.func227.trans (congrArg some (by kernel_rfl))
 f279:=Tryz.func228.trans (congrArg some (by kernel_rfl))
 f280:=Tryz.func229.trans (congrArg some (by kernel_rfl))
 f281:=Tryz.func230.trans (congrArg some (by kernel_rfl))
 f282:=Tryz.func231.trans (congrArg some (by kernel_rfl))
 f283:=Tryz.func212.trans (congrArg some (by kernel_rfl))
 f284:=Tryz.func213.trans (congrArg some (by kernel_rfl))
 f285:=Tryz.func214.trans (congrArg some (by kernel_rfl))
 f286:=Tryz.func215.trans (congrArg some (by kernel_rfl))
 f287:=Tryz.func232.trans (congrArg some (by kernel_rfl))
 f316:=Tryz.func233.trans (congrArg some (by kernel_rfl))
 f317:=Tryz.func218.trans (congrArg some (by kernel_rfl))
 f318:=Tryz.func220.trans (congrArg some (by kernel_rfl))
 f319:=Tryz.func221.trans (congrArg some (by kernel_rfl))
 f320:=Tryz.func222.trans (congrArg some (by kernel_rfl))
 f321:=Tryz.func235.trans (congrArg some (by kernel_rfl))
 f322:=Tryz.func236.trans (congrArg some (by kernel_rfl))
 f337:=Tryz.func225.trans (congrArg some (by kernel_rfl))
 f338:=Tryz.func226.trans (congrArg some (by kernel_rfl))
 t0:=Tryz.underlying0
 a0:=Tryz.isAgg0
 z0:=Tryz.sizeOf0
 v0:=Tryz.zeroValue0
 t2:=Tryz.underlying2
 a2:=Tryz.isAgg2
 z2:=Tryz.sizeOf2
 v2:=Tryz.zeroValue2
 t3:=Tryz.underlying3
 a3:=Tryz.isAgg3
 z3:=Tryz.sizeOf3
 v3:=Tryz.zeroValue3
 t4:=Tryz.underlying4
 a4:=Tryz.isAgg4
 z4:=Tryz.sizeOf4
 v4:=Tryz.zeroValue4
 t5:=Tryz.underlying5
 a5:=Tryz.isAgg5
 z5:=Tryz.sizeOf5
 v5:=Tryz.zeroValue5
 t9:=Tryz.underlying9
 a9:=Tryz.isAgg9
 z9:=Tryz.sizeOf9
 v9:=Tryz.zeroValue9
 t20:=Tryz.underlying20
 a20:=Tryz.isAgg20
 z20:=Tryz.sizeOf20
 v20:=Tryz.zeroValue20
 t21:=Tryz.underlying21
 a21:=Tryz.isAgg21
 z21:=Tryz.sizeOf21
 v21:=Tryz.zeroValue21
 t37:=Tryz.underlying22
 a37:=Tryz.isAgg22
 z37:=Tryz.sizeOf22
 v37:=Tryz.zeroValue22
 t46:=Tryz.underlying189
 a46:=Tryz.isAgg189
 z46:=Tryz.sizeOf189
 v46:=Tryz.zeroValue189
 t51:=Tryz.underlying259
 a51:=Tryz.isAgg259
 z51:=Tryz.sizeOf259
 v51:=Tryz.zeroValue259
 t53:=Tryz.underlying65
 a53:=Tryz.isAgg65
 z53:=Tryz.sizeOf65
 v53:=Tryz.zeroValue65
 t75:=Tryz.underlying81
 a75:=Tryz.isAgg81
 z75:=Tryz.sizeOf81
 v75:=Tryz.zeroValue81
 t76:=Tryz.underlying268
 a76:=Tryz.isAgg268
 z76:=Tryz.sizeOf268
 v76:=Tryz.zeroValue268
 t85:=Tryz.underlying277
 a85:=Tryz.isAgg277
 z85:=Tryz.sizeOf277
 v85:=Tryz.zeroValue277
 t127:=Tryz.underlying289
 a127:=Tryz.isAgg289
 z127:=Tryz.sizeOf289
 v127:=Tryz.zeroValue289
 t143:=Tryz.underlying290
 a143:=Tryz.isAgg290
 z143:=Tryz.sizeOf290
 v143:=Tryz.zeroValue290
 t145:=Tryz.underlying292
 a145:=Tryz.isAgg292
 z145:=Tryz.sizeOf292
 v145:=Tryz.zeroValue292
 t167:=Tryz.underlying276
 a167:=Tryz.isAgg276
 z167:=Tryz.sizeOf276
 v167:=Tryz.zeroValue276
 t168:=Tryz.underlying279
 a168:=Tryz.isAgg279
 z168:=Tryz.sizeOf279
 v168:=Tryz.zeroValue279
 t171:=Tryz.underlying263
 a171:=Tryz.isAgg263
 z171:=Tryz.sizeOf263
 v171:=Tryz.zeroValue263
 t173:=Tryz.underlying266
 a173:=Tryz.isAgg266
 z173:=Tryz.sizeOf266
 v173:=Tryz.zeroValue266
 t175:=Tryz.underlying284
 a175:=Tryz.isAgg284
 z175:=Tryz.sizeOf284
 v175:=Tryz.zeroValue284
 t210:=Tryz.underlying287
 a210:=Tryz.isAgg287
 z210:=Tryz.sizeOf287
 v210:=Tryz.zeroValue287
 t212:=Tryz.underlying271
 a212:=Tryz.isAgg271
 z212:=Tryz.sizeOf271
 v212:=Tryz.zeroValue271
 t213:=Tryz.underlying272
 a213:=Tryz.isAgg272
 z213:=Tryz.sizeOf272
 t232:=Tryz.underlying282
 a232:=Tryz.isAgg282
 z232:=Tryz.sizeOf282
 v232:=Tryz.zeroValue282
 t233:=Tryz.underlying283
 a233:=Tryz.isAgg283
 z233:=Tryz.sizeOf283
 v233:=Tryz.zeroValue283
 g15:=by kernel_rfl
 g16:=by kernel_rfl
 g17:=by kernel_rfl
 g18:=by kernel_rfl
 g19:=by kernel_rfl }
open Go.RowKit in
theorem Tryz.strconv_Atoi (s:ByteArray) (n:Int) (hl:s.size<=18) (h:Lib.atoi s.data.toList=some n) (w:World) :
  Calls Tryz.prog 216 #[.string s] w λe w'=>e=.returned (.tuple #[.int .i64 n,.nilIface])/\∃t,w'=Lib.bytesWorld w 5 t:=Any.strconv_Atoi Tryz.lays172 s n hl h w
def Tryz.laysM171_ren:Go.Shelf.Ren:=⟨fun|171=>131|243=>180|246=>201|283=>212|284=>213|285=>214|286=>215|129=>219|317=>218|318=>220|319=>221|320=>222|337=>225|338=>226|n=>n,fun|3=>3|9=>9|2=>2|4=>4|171=>263|0=>0|53=>65|37=>22|5=>5|173=>266|212=>271|51=>259|20=>20|213=>272|46=>189|232=>282|233=>283|n=>n,fun|17=>3|18=>4|19=>5|n=>n⟩
theorem Tryz.laysM171:Go.Proofs.LaysM.n171 Tryz.prog Tryz.laysM171_ren:={
 mixed:=by kernel_rfl
 f129:=Tryz.func219.trans (congrArg some (by kernel_rfl))
 f171:=Tryz.func131.trans (congrArg some (by kernel_rfl))
 f243:=Tryz.func180.trans (congrArg some (by kernel_rfl))
 f246:=Tryz.func201.trans (congrArg some (by kernel_rfl))
 f283:=Tryz.func212.trans (congrArg some (by kernel_rfl))
 f284:=Tryz.func213.trans (congrArg some (by kernel_rfl))
 f285:=Tryz.func214.trans (congrArg some (by kernel_rfl))
 f286:=Tryz.func215.trans (congrArg some (by kernel_rfl))
 f317:=Tryz.func218.trans (congrArg some (by kernel_rfl))
 f318:=Tryz.func220.trans (congrArg some (by kernel_rfl))
 f319:=Tryz.func221.trans (congrArg some (by kernel_rfl))
 f320:=Tryz.func222.trans (congrArg some (by kernel_rfl))
 f337:=Tryz.func225.trans (congrArg some (by kernel_rfl))
 f338:=Tryz.func226.trans (congrArg some (by kernel_rfl))
 t0:=Tryz.underlying0
 a0:=Tryz.isAgg0
 z0:=Tryz.sizeOf0
 v0:=Tryz.zeroValue0
 t2:=Tryz.underlying2
 a2:=Tryz.isAgg2
 z2:=Tryz.sizeOf2
 v2:=Tryz.zeroValue2
 t3:=Tryz.underlying3
 a3:=Tryz.isAgg3
 z3:=Tryz.sizeOf3
 v3:=Tryz.zeroValue3
 t4:=Tryz.underlying4
 a4:=Tryz.isAgg4
 z4:=Tryz.sizeOf4
 v4:=Tryz.zeroValue4
 t5:=Tryz.underlying5
 a5:=Tryz.isAgg5
 z5:=Tryz.sizeOf5
 v5:=Tryz.zeroValue5
 t9:=Tryz.underlying9
 a9:=Tryz.isAgg9
 z9:=Tryz.sizeOf9
 v9:=Tryz.zeroValue9
 t20:=Tryz.underlying20
 a20:=Tryz.isAgg20
 z20:=Tryz.sizeOf20
 v20:=Tryz.zeroValue20
 t37:=Tryz.underlying22
 a37:=Tryz.isAgg22
 z37:=Tryz.sizeOf22
 v37:=Tryz.zeroValue22
 t46:=Tryz.underlying189
 a46:=Tryz.isAgg189
 z46:=Tryz.sizeOf189
 v46:=Tryz.zeroValue189
 t51:=Tryz.underlying259
 a51:=Tryz.isAgg259
 z51:=Tryz.sizeOf259
 v51:=Tryz.zeroValue259
 t53:=Tryz.underlying65
 a53:=Tryz.isAgg65
 z53:=Tryz.sizeOf65
 v53:=Tryz.zeroValue65
 t171:=Tryz.underlying263
 a171:=Tryz.isAgg263
 z171:=Tryz.sizeOf263
 v171:=Tryz.zeroValue263
 t173:=Tryz.underlying266
 a173:=Tryz.isAgg266
 z173:=Tryz.sizeOf266
 v173:=Tryz.zeroValue266
 t212:=Tryz.underlying271
 a212:=Tryz.isAgg271
 z212:=Tryz.sizeOf271
 v212:=Tryz.zeroValue271
 t213:=Tryz.underlying272
 a213:=Tryz.isAgg272
 z213:=Tryz.sizeOf272
 t232:=Tryz.underlying282
 a232:=Tryz.isAgg282
 z232:=Tryz.sizeOf282
 v232:=Tryz.zeroValue282
 t233:=Tryz.underlying283
 a233:=Tryz.isAgg283
 z233:=Tryz.sizeOf283
 v233:=Tryz.zeroValue283
 g17:=by kernel_rfl
 g18:=by kernel_rfl
 g19:=by kernel_rfl
 i0:=by kernel_rfl
 i2:=by kernel_rfl
 i3:=by kernel_rfl
 i4:=by kernel_rfl
 i5:=by kernel_rfl
 i9:=by kernel_rfl
 i20:=by kernel_rfl
 i37:=by kernel_rfl
 i46:=by kernel_rfl
 i51:=by kernel_rfl
 i53:=by kernel_rfl
 i171:=by kernel_rfl
 i173:=by kernel_rfl
 i212:=by kernel_rfl
 i232:=by kernel_rfl
 i233:=by kernel_rfl
 m17:=by kernel_rfl
 m18:=by kernel_rfl
 m19:=by kernel_rfl }
open Go.RowKit Go.Sort Go.Lib in
theorem Tryz.strconv_Itoa (n:Int) (h0:-9223372036854775808<=n) (h1:n<=9223372036854775807) (w:World) (htab:Lib.TabIs Tryz.prog w "internal/strconv.uint64pow10" .u64 Lib.pow10Tab) :
  Calls Tryz.prog 131 #[.int .i64 n] w λe w'=>e=.returned (.string ⟨(Lib.itoa n).toArray⟩)/\∃k os,w'=grow (w.drewN k) os:=Any.strconv_Itoa Tryz.laysM171 n h0 h1 w htab
def Tryz.lays171_ren:Go.Shelf.Ren:=⟨fun|171=>131|243=>180|246=>201|283=>212|284=>213|285=>214|286=>215|129=>219|317=>218|318=>220|319=>221|320=>222|337=>225|338=>226|n=>n,fun|3=>3|9=>9|2=>2|4=>4|171=>263|0=>0|53=>65|37=>22|5=>5|173=>266|212=>271|51=>259|20=>20|213=>272|46=>189|232=>282|233=>283|n=>n,fun|17=>3|18=>4|19=>5|n=>n⟩
theorem Tryz.lays171:Go.Proofs.Lays.n171 Tryz.prog Tryz.lays171_ren:={
 mixed:=by kernel_rfl
 f129:=Tryz.func219.trans (congrArg some (by kernel_rfl))
 f171:=Tryz.func131.trans (congrArg some (by kernel_rfl))
 f243:=Tryz.func180.trans (congrArg some (by kernel_rfl))
 f246:=Tryz.func201.trans (congrArg some (by kernel_rfl))
 f283:=Tryz.func212.trans (congrArg some (by kernel_rfl))
 f284:=Tryz.func213.trans (congrArg some (by kernel_rfl))
 f285:=Tryz.func214.trans (congrArg some (by kernel_rfl))
 f286:=Tryz.func215.trans (congrArg some (by kernel_rfl))
 f317:=Tryz.func218.trans (congrArg some (by kernel_rfl))
 f318:=Tryz.func220.trans (congrArg some (by kernel_rfl))
 f319:=Tryz.func221.trans (congrArg some (by kernel_rfl))
 f320:=Tryz.func222.trans (congrArg some (by kernel_rfl))
 f337:=Tryz.func225.trans (congrArg some (by kernel_rfl))
 f338:=Tryz.func226.trans (congrArg some (by kernel_rfl))
 t0:=Tryz.underlying0
 a0:=Tryz.isAgg0
 z0:=Tryz.sizeOf0
 v0:=Tryz.zeroValue0
 t2:=Tryz.underlying2
 a2:=Tryz.isAgg2
 z2:=Tryz.sizeOf2
 v2:=Tryz.zeroValue2
 t3:=Tryz.underlying3
 a3:=Tryz.isAgg3
 z3:=Tryz.sizeOf3
 v3:=Tryz.zeroValue3
 t4:=Tryz.underlying4
 a4:=Tryz.isAgg4
 z4:=Tryz.sizeOf4
 v4:=Tryz.zeroValue4
 t5:=Tryz.underlying5
 a5:=Tryz.isAgg5
 z5:=Tryz.sizeOf5
 v5:=Tryz.zeroValue5
 t9:=Tryz.underlying9
 a9:=Tryz.isAgg9
 z9:=Tryz.sizeOf9
 v9:=Tryz.zeroValue9
 t20:=Tryz.underlying20
 a20:=Tryz.isAgg20
 z20:=Tryz.sizeOf20
 v20:=Tryz.zeroValue20
 t37:=Tryz.underlying22
 a37:=Tryz.isAgg22
 z37:=Tryz.sizeOf22
 v37:=Tryz.zeroValue22
 t46:=Tryz.underlying189
 a46:=Tryz.isAgg189
 z46:=Tryz.sizeOf189
 v46:=Tryz.zeroValue189
 t51:=Tryz.underlying259
 a51:=Tryz.isAgg259
 z51:=Tryz.sizeOf259
 v51:=Tryz.zeroValue259
 t53:=Tryz.underlying65
 a53:=Tryz.isAgg65
 z53:=Tryz.sizeOf65
 v53:=Tryz.zeroValue65
 t171:=Tryz.underlying263
 a171:=Tryz.isAgg263
 z171:=Tryz.sizeOf263
 v171:=Tryz.zeroValue263
 t173:=Tryz.underlying266
 a173:=Tryz.isAgg266
 z173:=Tryz.sizeOf266
 v173:=Tryz.zeroValue266
 t212:=Tryz.underlying271
 a212:=Tryz.isAgg271
 z212:=Tryz.sizeOf271
 v212:=Tryz.zeroValue271
 t213:=Tryz.underlying272
 a213:=Tryz.isAgg272
 z213:=Tryz.sizeOf272
 t232:=Tryz.underlying282
 a232:=Tryz.isAgg282
 z232:=Tryz.sizeOf282
 v232:=Tryz.zeroValue282
 t233:=Tryz.underlying283
 a233:=Tryz.isAgg283
 z233:=Tryz.sizeOf283
 v233:=Tryz.zeroValue283
 g17:=by kernel_rfl
 g18:=by kernel_rfl
 g19:=by kernel_rfl }
open Go.RowKit Go.Sort Go.Lib in
theorem Tryz.strconv_Itoa_small (i:Nat) (hi:i<100) (w:World) :
  Calls Tryz.prog 131 #[.int .i64 i] w λe w'=>e=.returned (.string ⟨(Lib.decDigits i).toArray⟩)/\w'=w:=Any.strconv_Itoa_small Tryz.lays171 i hi w
def Tryz.lays145_ren:Go.Shelf.Ren:=⟨fun|145=>127|220=>176|219=>199|217=>188|225=>209|224=>210|267=>211|266=>203|314=>217|n=>n,fun|9=>9|4=>4|59=>183|3=>3|5=>5|46=>189|146=>260|51=>259|n=>n,fun|1=>2|n=>n⟩
theorem Tryz.lays145:Go.Proofs.Lays.n145 Tryz.prog Tryz.lays145_ren:={
 mixed:=by kernel_rfl
 f145:=Tryz.func127.trans (congrArg some (by kernel_rfl))
 f217:=Tryz.func188.trans (congrArg some (by kernel_rfl))
 f219:=Tryz.func199.trans (congrArg some (by kernel_rfl))
 f220:=Tryz.func176.trans (congrArg some (by kernel_rfl))
 f224:=Tryz.func210.trans (congrArg some (by kernel_rfl))
 f225:=Tryz.func209.trans (congrArg some (by kernel_rfl))
 f266:=Tryz.func203.trans (congrArg some (by kernel_rfl))
 f267:=Tryz.func211.trans (congrArg some (by kernel_rfl))
 f314:=Tryz.func217.trans (congrArg some (by kernel_rfl))
 t3:=Tryz.underlying3
 a3:=Tryz.isAgg3
 z3:=Tryz.sizeOf3
 v3:=Tryz.zeroValue3
 t4:=Tryz.underlying4
 a4:=Tryz.isAgg4
 z4:=Tryz.sizeOf4
 v4:=Tryz.zeroValue4
 t5:=Tryz.underlying5
 a5:=Tryz.isAgg5
 z5:=Tryz.sizeOf5
 v5:=Tryz.zeroValue5
 t9:=Tryz.underlying9
 a9:=Tryz.isAgg9
 z9:=Tryz.sizeOf9
 v9:=Tryz.zeroValue9
 t46:=Tryz.underlying189
 a46:=Tryz.isAgg189
 z46:=Tryz.sizeOf189
 v46:=Tryz.zeroValue189
 t51:=Tryz.underlying259
 a51:=Tryz.isAgg259
 z51:=Tryz.sizeOf259
 v51:=Tryz.zeroValue259
 t59:=Tryz.underlying183
 a59:=Tryz.isAgg183
 z59:=Tryz.sizeOf183
 v59:=Tryz.zeroValue183
 t146:=Tryz.underlying260
 a146:=Tryz.isAgg260
 z146:=Tryz.sizeOf260
 v146:=Tryz.zeroValue260
 g1:=by kernel_rfl }
open Go.RowKit Go.Lib in
theorem Tryz.strings_Cut (s sep:ByteArray) (m:Int) (w:World) (hs:s.size<4294967281) (hm:w.cell? ⟨2,0,none⟩=some (.int .i64 m)) :
  Calls Tryz.prog 127 #[.string s,.string sep] w λe w'=>e=.returned (.tuple #[.string ⟨(Lib.cut s.data.toList sep.data.toList).1.toArray⟩,.string ⟨(Lib.cut s.data.toList sep.data.toList).2.1.toArray⟩,.bool (Lib.cut s.data.toList sep.data.toList).2.2])/\∃n,w'=w.drewN n:=Any.strings_Cut Tryz.lays145 s sep m w hs hm
def Tryz.lays148_ren:Go.Shelf.Ren:=⟨fun|148=>170|222=>194|223=>195|269=>207|n=>n,fun|9=>9|3=>3|4=>4|5=>5|146=>260|51=>259|46=>189|n=>n,fun|n=>n⟩
theorem Tryz.lays148:Go.Proofs.Lays.n148 Tryz.prog Tryz.lays148_ren:={
 mixed:=by kernel_rfl
 f148:=Tryz.func170.trans (congrArg some (by kernel_rfl))
 f222:=Tryz.func194.trans (congrArg some (by kernel_rfl))
 f223:=Tryz.func195.trans (congrArg some (by kernel_rfl))
 f269:=Tryz.func207.trans (congrArg some (by kernel_rfl))
 t3:=Tryz.underlying3
 a3:=Tryz.isAgg3
 z3:=Tryz.sizeOf3
 v3:=Tryz.zeroValue3
 t4:=Tryz.underlying4
 a4:=Tryz.isAgg4
 z4:=Tryz.sizeOf4
 v4:=Tryz.zeroValue4
 t5:=Tryz.underlying5
 a5:=Tryz.isAgg5
 z5:=Tryz.sizeOf5
 v5:=Tryz.zeroValue5
 t9:=Tryz.underlying9
 a9:=Tryz.isAgg9
 z9:=Tryz.sizeOf9
 v9:=Tryz.zeroValue9
 t46:=Tryz.underlying189
 a46:=Tryz.isAgg189
 z46:=Tryz.sizeOf189
 v46:=Tryz.zeroValue189
 t51:=Tryz.underlying259
 a51:=Tryz.isAgg259
 z51:=Tryz.sizeOf259
 v51:=Tryz.zeroValue259
 t146:=Tryz.underlying260
 a146:=Tryz.isAgg260
 z146:=Tryz.sizeOf260
 v146:=Tryz.zeroValue260 }
end Go.Proofs
namespace Go.Proofs.YtikgblkfmpecfaaGreatDoor
open Go.RowKit
def fD:Tr->Value
 | .leaf n=>.iface 144 (.agg #[.int .i64 n.kind,.int .i64 n.value,.string n.name])
 | .seq a b=>.iface 139 (.agg #[fD a,fD b])
 | .par a b=>.iface 142 (.agg #[fD a,fD b])
theorem qG (t:Tr):∃T a,fD t=.iface T (.agg a):=by
 cases t<;>exact⟨_,_,rfl⟩
def z2:Value:=.agg #[.nilIface,.nilIface]
def z3:Value:=.agg #[.int .i64 0,.int .i64 0,.string ⟨#[]⟩]
section
variable (a:Array Value) (w:World)
theorem aaj:Sem.run Tryz.prog (Instr.typeAssert (.iface 144 (.agg a)) 76 139 true) w=.ok (.tuple #[.agg #[.nilIface,.nilIface],.bool false]) w:=by kernel_rfl
theorem aak:Sem.run Tryz.prog (Instr.typeAssert (.iface 139 (.agg a)) 76 139 true) w=.ok (.tuple #[.agg a,.bool true]) w:=by kernel_rfl
theorem aal:Sem.run Tryz.prog (Instr.typeAssert (.iface 142 (.agg a)) 76 139 true) w=.ok (.tuple #[.agg #[.nilIface,.nilIface],.bool false]) w:=by kernel_rfl
theorem aam:Sem.run Tryz.prog (Instr.typeAssert (.iface 144 (.agg a)) 76 142 true) w=.ok (.tuple #[.agg #[.nilIface,.nilIface],.bool false]) w:=by kernel_rfl
theorem agk:Sem.run Tryz.prog (Instr.typeAssert (.iface 139 (.agg a)) 76 142 true) w=.ok (.tuple #[.agg #[.nilIface,.nilIface],.bool false]) w:=by kernel_rfl
theorem aan:Sem.run Tryz.prog (Instr.typeAssert (.iface 142 (.agg a)) 76 142 true) w=.ok (.tuple #[.agg a,.bool true]) w:=by kernel_rfl
theorem agl:Sem.run Tryz.prog (Instr.typeAssert (.iface 144 (.agg a)) 76 144 true) w=.ok (.tuple #[.agg a,.bool true]) w:=by kernel_rfl
end
theorem MI (t:Tr) (w:World) :
  Calls Tryz.prog 84 #[fD t] w λe w'=>e=.returned (.bool t.iP)/\Below w.heap.size w w':=by
 have h1:=aaj;have h2:=aak;have h3:=aal;cases t with
 | leaf n =>
  rw[fD]
  go_enter Tryz.func84,Tryz.ntmps84
  go_wp2
  go_ret
  exact⟨rfl,(by repeat(first|exact Below.refl _ _|with_reducible refine Below.drew ?_|refine Below.alloc ?_ (by simp<;>omega) _))⟩
 | seq a b =>
  obtain⟨Ta,xa,ha⟩:=qG a
  obtain⟨Tb,xb,hb⟩:=qG b
  rw[fD,ha,hb]
  clear ha hb
  go_enter Tryz.func84,Tryz.ntmps84
  go_wp2
  go_ret
  exact⟨rfl,(by repeat(first|exact Below.refl _ _|with_reducible refine Below.drew ?_|refine Below.alloc ?_ (by simp<;>omega) _))⟩
 | par a b =>
  obtain⟨Ta,xa,ha⟩:=qG a
  obtain⟨Tb,xb,hb⟩:=qG b
  rw[fD,ha,hb]
  clear ha hb
  go_enter Tryz.func84,Tryz.ntmps84
  go_wp2
  go_ret
  exact⟨rfl,(by repeat(first|exact Below.refl _ _|with_reducible refine Below.drew ?_|refine Below.alloc ?_ (by simp<;>omega) _))⟩
theorem MJ (t:Tr) (w:World) :
  Calls Tryz.prog 85 #[fD t] w λe w'=>e=.returned (.bool t.iy)/\Below w.heap.size w w':=by
 have h1:=aam;have h2:=agk;have h3:=aan;cases t with
 | leaf n =>
  rw[fD]
  go_enter Tryz.func85,Tryz.ntmps85
  go_wp2
  go_ret
  exact⟨rfl,(by repeat(first|exact Below.refl _ _|with_reducible refine Below.drew ?_|refine Below.alloc ?_ (by simp<;>omega) _))⟩
 | seq a b =>
  obtain⟨Ta,xa,ha⟩:=qG a
  obtain⟨Tb,xb,hb⟩:=qG b
  rw[fD,ha,hb]
  clear ha hb
  go_enter Tryz.func85,Tryz.ntmps85
  go_wp2
  go_ret
  exact⟨rfl,(by repeat(first|exact Below.refl _ _|with_reducible refine Below.drew ?_|refine Below.alloc ?_ (by simp<;>omega) _))⟩
 | par a b =>
  obtain⟨Ta,xa,ha⟩:=qG a
  obtain⟨Tb,xb,hb⟩:=qG b
  rw[fD,ha,hb]
  clear ha hb
  go_enter Tryz.func85,Tryz.ntmps85
  go_wp2
  go_ret
  exact⟨rfl,(by repeat(first|exact Below.refl _ _|with_reducible refine Below.drew ?_|refine Below.alloc ?_ (by simp<;>omega) _))⟩
theorem sZ (s:ByteArray) (b:Bool) (w:World) (hs:s.size<=1048576) :
  Calls Tryz.prog 83 #[.string s,.bool b] w λe w'=>e=.returned (.string (brk s b))/\w=w':=by
 cases b with
 | false =>
  go_enter Tryz.func83,Tryz.ntmps83
  go_wp2
  go_ret
  exact⟨rfl,rfl⟩
 | true =>
  go_enter Tryz.func83,Tryz.ntmps83
  go_wp2
  go_ret
  exact⟨rfl,rfl⟩
theorem agm (v:Int) (w:World) (h0:0<=v) (h1:v<=96) :
  Calls Tryz.prog 131 #[.int .i64 v] w λe w'=>e=.returned (.string (eG v))/\w=w':=by
 obtain⟨k,rfl⟩:=Int.eq_ofNat_of_zero_le h0;exact(Tryz.strconv_Itoa_small k (by omega) w).mono λe w' h=>⟨h.1,h.2.symm⟩
theorem agn {w:World} {v:Value} {k:Nat} {b:Nat} {n c:Nat} (h:w_ w v kN) (hv:v=.slice (some ⟨b,0,none⟩) n c) (hk:k<15):w.cell? ⟨b,k,none⟩=some (.string (word k)):=by
 subst hv;obtain⟨a,cap,ha,hc,hat⟩:=h;simp only[Value.slice.injEq,Option.some.injEq]at ha;obtain⟨rfl,_,_⟩:=ha;obtain⟨b',o',hb,hl,hx⟩:=hat k hk;simp only[Option.some.injEq,Addr.mk.injEq]at hb;obtain⟨rfl,rfl,_⟩:=hb;have e:(⟨b,0+k*1,none⟩:Addr)=⟨b,k,none⟩:=by simp
 rw[e]at hx;rw[hx];unfold word;rw[List.getD_eq_getElem?_getD,Int.toNat_natCast,List.getElem?_eq_getElem hl];rfl
end Go.Proofs.YtikgblkfmpecfaaGreatDoor
