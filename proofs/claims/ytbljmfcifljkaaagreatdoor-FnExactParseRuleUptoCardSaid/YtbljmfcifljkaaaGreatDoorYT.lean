/-
  Trees of nodes and their texts, no program in sight. Own work.
-/
import Derived.Test.YtbljmfcifljkaaaGreatDoorYF
import Derived.Test.YtbljmfcifljkaaaGreatDoorYC
import Derived.Lib.ItoaNum
import Derived.Shelf.Small.Strs
import Derived.Shelf.Strconv.Atoi
import Derived.Shelf.Strconv.Itoa0
import Derived.Shelf.Strconv.Itoa1
import Derived.Shelf.LaysM
import Derived.Shelf.Strconv.Itoa2
import Derived.Shelf.Strconv.Itoa3
import Derived.Shelf.Strings.Search1
import Derived.Shelf.Strings.Search2
import Derived.Shelf.Strings.Search3
import Derived.Shelf.Strings.Count
import Derived.Shelf.Strings.Shaped
import Derived.Shelf.Strings.Prefix
import Derived.Shelf.Unicode.DecodeSlow
import Derived.Shelf.Unicode.DecodeAny
import Derived.Test.YtbljmfcifljkaaaGreatDoorProg
import Derived.Test.YtbljmfcifljkaaaGreatDoorYB
import Derived.KernelRfl
set_option linter.all false
set_option maxRecDepth 100000
set_option maxHeartbeats 8000000
namespace Go.Proofs.YtbljmfcifljkaaaGreatDoor
open Go.RowKit
inductive Tr where
 | leaf (n:Nd)
 | seq (a b:Tr)
 | par (a b:Tr)
def Tr.isSeq:Tr → Bool
 | .seq _ _=>true
 | _=>false
def Tr.isPar:Tr → Bool
 | .par _ _=>true
 | _=>false
def Tr.count:Tr → Nat
 | .leaf _=>1
 | .seq a b=>a.count+b.count+1
 | .par a b=>a.count+b.count+1
def treesGo:List Nd → List Tr → Option (List Tr)
 | [],st=>some st
 | n :: r,st =>
  if n.kind=15 then
   (match st with
   | b :: a :: st'=>treesGo r (.seq a b :: st')
   | _=>none)
  else if n.kind=16 then
   (match st with
   | b :: a :: st'=>treesGo r (.par a b :: st')
   | _=>none)
  else treesGo r (.leaf n :: st)
def bOpen:ByteArray:=⟨#[40]⟩
def bShut:ByteArray:=⟨#[41]⟩
def bSeq:ByteArray:=⟨#[32,59,32]⟩
def bPar:ByteArray:=⟨#[32,42,32]⟩
def bSp:ByteArray:=⟨#[32]⟩
def bEq:ByteArray:=⟨#[32,61,32]⟩
def numT (v:Int):ByteArray:=⟨(Lib.decDigits v.toNat).toArray⟩
def word (k:Int):ByteArray:=kwords.getD k.toNat ⟨#[]⟩
def leafTxt (n:Nd):ByteArray:=if n.kind=17 then n.name else if n.kind=1∨n.kind=7∨n.kind=13 then word n.kind ++ bSp ++ numT n.value else word n.kind
def brk (s:ByteArray) (b:Bool):ByteArray:=if b then bOpen ++ s ++ bShut else s
def prT (full:Bool):Tr → ByteArray
 | .leaf n=>leafTxt n
 | .seq a b=>brk (prT full a) (full && (a.isSeq || a.isPar)) ++ bSeq ++ brk (prT full b) (b.isSeq || full && b.isPar)
 | .par a b=>brk (prT full a) (a.isSeq || full && a.isPar) ++ bPar ++ brk (prT full b) (b.isSeq || b.isPar)
def treeL (ns:List Nd):Tr:=((treesGo ns []).getD []).headD (.leaf ⟨0,0,⟨#[]⟩⟩)
def bLet:ByteArray:=⟨#[108,101,116,32]⟩
def bDrop:ByteArray:=⟨#[100,114,111,112,32]⟩
def bName:ByteArray:=⟨#[110,97,109,101,32]⟩
def txtE (e:En):ByteArray :=
 if e.kind=1 then bLet ++ (e.name ++ bEq ++ prT false (treeL e.body)) else if e.kind=2 then bDrop ++ e.name else bName ++ (e.name ++ bSp ++ e.to)
def chk:List UInt8 → Int → Int
 | [],n=>n
 | b :: r,n=>chk r ((131 * n+b.toNat+1) % 65521)
def chkT (s:ByteArray):Int:=chk s.data.toList 7
def bHash:ByteArray:=⟨#[32,35]⟩
def bNl:ByteArray:=⟨#[10]⟩
def recT (s:ByteArray):ByteArray:=s ++ bHash ++ numT (chkT s) ++ bNl
def journ:List Df → ByteArray → List En → Option ByteArray
 | _,out,[]=>some out
 | L,out,e :: r =>
  match applyE L e with
  | none=>none
  | some R=>journ R (out ++ recT (txtE e)) r
def journal (es:List En):Option ByteArray :=
 if es.length≤60 then
  (match journ [] ⟨#[]⟩ es with
  | some s=>if s.size≤60000 then some s else none
  | none=>none)
 else none
end Go.Proofs.YtbljmfcifljkaaaGreatDoor
/-
  DERIVED: THE SHELF's CONTRACTS AT THIS DUMP, IN PLAIN WORDS (tools/lay-plain.mjs out of 'TryzShelf.lean', which tools/lay-shelf.mjs wrote): THE SAME DECLARATIONS UNDER THE SAME NAMES: 'import', 'namespace', 'open', 'def', 'theorem' AND NOTHING ELSE: no command of the shelf's: FOR A HAND-IN. Each laying: the table of numbers ('.._ren') and one theorem, a field a fact of the dump's own or the kernel's comparison; each contract: ONE APPLICATION.
-/
namespace Go.Proofs
open Go.Shelf
def Tryz.lays137_ren:Go.Shelf.Ren:=⟨fun|137=>175|217=>238|266=>294|n=>n,fun|9=>9|5=>5|3=>3|n=>n,fun|n=>n⟩
theorem Tryz.lays137:Go.Proofs.Lays.n137 Tryz.prog Tryz.lays137_ren:={
 mixed:=by kernel_rfl
 f137:=Tryz.func175.trans (congrArg some (by kernel_rfl))
 f217:=Tryz.func238.trans (congrArg some (by kernel_rfl))
 f266:=Tryz.func294.trans (congrArg some (by kernel_rfl))
 t3:=Tryz.underlying3
 a3:=Tryz.isAgg3
 z3:=Tryz.sizeOf3
 v3:=Tryz.zeroValue3
 t5:=Tryz.underlying5
 a5:=Tryz.isAgg5
 z5:=Tryz.sizeOf5
 v5:=Tryz.zeroValue5
 t9:=Tryz.underlying9
 a9:=Tryz.isAgg9
 z9:=Tryz.sizeOf9
 v9:=Tryz.zeroValue9 }
open Go.RowKit in
theorem Tryz.strings_IndexByte (s:ByteArray) (c:Int) (w:World) :
  Calls Tryz.prog 175 #[.string s,.int .u8 c] w fun e w'=>e=.returned (.int .i64 (Lib.indexByte s.data.toList c.toNat.toUInt8))∧w'=w:=Any.strings_IndexByte Tryz.lays137 s c w
def Tryz.lays172_ren:Go.Shelf.Ren:=⟨fun|172=>131|244=>194|245=>195|247=>261|279=>262|280=>263|281=>264|282=>265|287=>304|316=>305|171=>92|205=>306|321=>327|322=>328|243=>164|246=>224|283=>279|284=>280|285=>281|286=>282|129=>310|317=>309|318=>311|319=>312|320=>313|337=>329|338=>330|n=>n,fun|9=>9|3=>3|75=>96|76=>183|4=>4|5=>5|167=>312|37=>142|0=>0|85=>313|2=>2|168=>315|53=>327|175=>360|46=>362|210=>364|127=>387|145=>390|143=>388|21=>21|171=>326|173=>330|212=>366|51=>221|20=>20|213=>367|232=>408|233=>409|80=>412|n=>n,fun|15=>1|16=>2|17=>3|18=>7|19=>8|n=>n⟩
theorem Tryz.lays172:Go.Proofs.Lays.n172 Tryz.prog Tryz.lays172_ren:={
 mixed:=by kernel_rfl
 f129:=Tryz.func310.trans (congrArg some (by kernel_rfl))
 f171:=Tryz.func92.trans (congrArg some (by kernel_rfl))
 f172:=Tryz.func131.trans (congrArg some (by kernel_rfl))
 f205:=Tryz.func306.trans (congrArg some (by kernel_rfl))
 f243:=Tryz.func164.trans (congrArg some (by kernel_rfl))
 f244:=Tryz.func194.trans (congrArg some (by kernel_rfl))
 f245:=Tryz.func195.trans (congrArg some (by kernel_rfl))
 f246:=Tryz.func224.trans (congrArg some (by kernel_rfl))
 f247:=Tryz.func261.trans (congrArg some (by kernel_rfl))
 f279:=Tryz.func262.trans (congrArg some (by kernel_rfl))
 f280:=Tryz.func263.trans (congrArg some (by kernel_rfl))
 f281:=Tryz.func264.trans (congrArg some (by kernel_rfl))
 f282:=Tryz.func265.trans (congrArg some (by kernel_rfl))
 f283:=Tryz.func279.trans (congrArg some (by kernel_rfl))
 f284:=Tryz.func280.trans (congrArg some (by kernel_rfl))
 f285:=Tryz.func281.trans (congrArg some (by kernel_rfl))
 f286:=Tryz.func282.trans (congrArg some (by kernel_rfl))
 f287:=Tryz.func304.trans (congrArg some (by kernel_rfl))
 f316:=Tryz.func305.trans (congrArg some (by kernel_rfl))
 f317:=Tryz.func309.trans (congrArg some (by kernel_rfl))
 f318:=Tryz.func311.trans (congrArg some (by kernel_rfl))
 f319:=Tryz.func312.trans (congrArg some (by kernel_rfl))
 f320:=Tryz.func313.trans (congrArg some (by kernel_rfl))
 f321:=Tryz.func327.trans (congrArg some (by kernel_rfl))
 f322:=Tryz.func328.trans (congrArg some (by kernel_rfl))
 f337:=Tryz.func329.trans (congrArg some (by kernel_rfl))
 f338:=Tryz.func330.trans (congrArg some (by kernel_rfl))
 t0:=Tryz.underlying0
 a0:=Tryz.isAgg0
 z0:=Tryz.sizeOf0
 v0:=Tryz.zeroValue0
 t2:=Tryz.underlying2
 a2:=Tryz.isAgg2
 z2:=Tryz.sizeOf2
 v2:=Tryz.zeroValue2
 t3:=Tryz.underlying3
 a3:=Tryz.isAgg3
 z3:=Tryz.sizeOf3
 v3:=Tryz.zeroValue3
 t4:=Tryz.underlying4
 a4:=Tryz.isAgg4
 z4:=Tryz.sizeOf4
 v4:=Tryz.zeroValue4
 t5:=Tryz.underlying5
 a5:=Tryz.isAgg5
 z5:=Tryz.sizeOf5
 v5:=Tryz.zeroValue5
 t9:=Tryz.underlying9
 a9:=Tryz.isAgg9
 z9:=Tryz.sizeOf9
 v9:=Tryz.zeroValue9
 t20:=Tryz.underlying20
 a20:=Tryz.isAgg20
 z20:=Tryz.sizeOf20
 v20:=Tryz.zeroValue20
 t21:=Tryz.underlying21
 a21:=Tryz.isAgg21
 z21:=Tryz.sizeOf21
 v21:=Tryz.zeroValue21
 t37:=Tryz.underlying142
 a37:=Tryz.isAgg142
 z37:=Tryz.sizeOf142
 v37:=Tryz.zeroValue142
 t46:=Tryz.underlying362
 a46:=Tryz.isAgg362
 z46:=Tryz.sizeOf362
 v46:=Tryz.zeroValue362
 t51:=Tryz.underlying221
 a51:=Tryz.isAgg221
 z51:=Tryz.sizeOf221
 v51:=Tryz.zeroValue221
 t53:=Tryz.underlying327
 a53:=Tryz.isAgg327
 z53:=Tryz.sizeOf327
 v53:=Tryz.zeroValue327
 t75:=Tryz.underlying96
 a75:=Tryz.isAgg96
 z75:=Tryz.sizeOf96
 v75:=Tryz.zeroValue96
 t76:=Tryz.underlying183
 a76:=Tryz.isAgg183
 z76:=Tryz.sizeOf183
 v76:=Tryz.zeroValue183
 t85:=Tryz.underlying313
 a85:=Tryz.isAgg313
 z85:=Tryz.sizeOf313
 v85:=Tryz.zeroValue313
 t127:=Tryz.underlying387
 a127:=Tryz.isAgg387
 z127:=Tryz.sizeOf387
 v127:=Tryz.zeroValue387
 t143:=Tryz.underlying388
 a143:=Tryz.isAgg388
 z143:=Tryz.sizeOf388
 v143:=Tryz.zeroValue388
 t145:=Tryz.underlying390
 a145:=Tryz.isAgg390
 z145:=Tryz.sizeOf390
 v145:=Tryz.zeroValue390
 t167:=Tryz.underlying312
 a167:=Tryz.isAgg312
 z167:=Tryz.sizeOf312
 v167:=Tryz.zeroValue312
 t168:=Tryz.underlying315
 a168:=Tryz.isAgg315
 z168:=Tryz.sizeOf315
 v168:=Tryz.zeroValue315
 t171:=Tryz.underlying326
 a171:=Tryz.isAgg326
 z171:=Tryz.sizeOf326
 v171:=Tryz.zeroValue326
 t173:=Tryz.underlying330
 a173:=Tryz.isAgg330
 z173:=Tryz.sizeOf330
 v173:=Tryz.zeroValue330
 t175:=Tryz.underlying360
 a175:=Tryz.isAgg360
 z175:=Tryz.sizeOf360
 v175:=Tryz.zeroValue360
 t210:=Tryz.underlying364
 a210:=Tryz.isAgg364
 z210:=Tryz.sizeOf364
 v210:=Tryz.zeroValue364
 t212:=Tryz.underlying366
 a212:=Tryz.isAgg366
 z212:=Tryz.sizeOf366
 v212:=Tryz.zeroValue366
 t213:=Tryz.underlying367
 a213:=Tryz.isAgg367
 z213:=Tryz.sizeOf367
 t232:=Tryz.underlying408
 a232:=Tryz.isAgg408
 z232:=Tryz.sizeOf408
 v232:=Tryz.zeroValue408
 t233:=Tryz.underlying409
 a233:=Tryz.isAgg409
 z233:=Tryz.sizeOf409
 v233:=Tryz.zeroValue409
 g15:=by kernel_rfl
 g16:=by kernel_rfl
 g17:=by kernel_rfl
 g18:=by kernel_rfl
 g19:=by kernel_rfl }
open Go.RowKit in
theorem Tryz.strconv_Atoi (s:ByteArray) (n:Int) (hl:s.size≤18) (h:Lib.atoi s.data.toList=some n) (w:World) :
  Calls Tryz.prog 131 #[.string s] w fun e w'=>e=.returned (.tuple #[.int .i64 n,.nilIface])∧∃ t,w'=Lib.bytesWorld w 5 t:=Any.strconv_Atoi Tryz.lays172 s n hl h w
end Go.Proofs
/-
  Walks of the printers of terms, the program's. Own work.
-/
namespace Go.Proofs.YtbljmfcifljkaaaGreatDoor
open Go.RowKit
def z2:Value:=.agg #[.nilIface,.nilIface]
def z3:Value:=.agg #[.int .i64 0,.int .i64 0,.string ⟨#[]⟩]
section
variable (a:Array Value) (w:World)
end
end Go.Proofs.YtbljmfcifljkaaaGreatDoor
