/-
  errors.Is and errors.As at a fault of the program's, and faultOf. Own work, in the frame of the guide's SentryIs.lean and ToyasAs.lean.
-/
import Derived.Test.YtikgblkfmpecfaaGreatDoorKA
import Derived.Test.YtikgblkfmpecfaaGreatDoorProg
import Derived.WalkKit
import Derived.LaidEql
import Derived.Stop.Asserts
import Derived.RowKitTokens
set_option linter.all false
set_option maxRecDepth 100000
set_option maxHeartbeats 8000000
namespace Go.Proofs.YtikgblkfmpecfaaGreatDoor
open Go.RowKit Go.Extern.Stop Go.Stop Go.Extern
theorem isTypeOf (v:Value) (w:World):(ReflectliteType.typeOf #[.iface 290 v]).run Tryz.prog w=.ok (.iface 236 (.agg #[.pointer (some ⟨8,290,none⟩)])) w:=by kernel_rfl
theorem isComparable (w : World) : ((ReflectliteType.method fun t => do Rtype.noPackHeld "Comparable" t; (fun a => Value.bool a.comparable) <$> typeInfo t) #[.agg #[.pointer (some ⟨8, 290, none⟩)]]).run Tryz.prog w = .ok (.bool true) w := by kernel_rfl
theorem isMethodComparable (v : Value) (w : World) : (Go.method 421 236 v "Comparable").run Tryz.prog w = .ok (266, v) w := by kernel_rfl
theorem isComp:(Tryz.prog.info? 290).map (·.comparable)=some true:=by kernel_rfl
theorem isSize:(Tryz.prog.info? 292).map (·.size)=some 1:=by kernel_rfl
theorem hasIs (v:Value) (xT:TypeId) (w:World):(Instr.typeAssert (.iface 161 v) xT 238 true).run Tryz.prog w=.ok (.tuple #[.iface 161 v,.bool true]) w:=run_typeAssert_hasB Tryz.underlying238 (by kernel_rfl) v xT w
theorem methodIs (v : Value) (w : World) : (Go.method 421 161 v "Is").run Tryz.prog w = .ok (260, v) w := by kernel_rfl
set_option maxRecDepth 100000
set_option maxHeartbeats 4000000
theorem faultIs_any (p c:Int) (a:Addr) (w:World) (hg:w.cell? ⟨0,0,none⟩=some (.iface 290 (.pointer (some a)))) :
  Calls Tryz.prog 260 #[.agg #[.int .i64 p,.int .i64 c],(.iface 290 (.pointer (some a)))] w fun e w'=>e=.returned (.bool true)∧Below w.heap.size w w':=by
 obtain ⟨i,hi,hcmp⟩:=Option.map_eq_some_iff.1 isComp
 obtain ⟨j,hj,hjs⟩:=Option.map_eq_some_iff.1 isSize
 have heq:=fun w1=>run_eql_iface_ptr_same (P:=Tryz.prog) w1 a Tryz.underlying81 Tryz.underlying290 hi hcmp hj
 have hz:=cell_lt hg
 go_enter Tryz.func260,Tryz.ntmps260
 go_wp2
 go_ret
 exact ⟨rfl,(Below.refl _ _).alloc (Nat.le_refl _) _⟩
theorem is_fault (p c:Int) (a:Addr) (w:World) (hg:w.cell? ⟨0,0,none⟩=some (.iface 290 (.pointer (some a)))) :
  Calls Tryz.prog 156 #[(.iface 161 (.agg #[.int .i64 p,.int .i64 c])),(.iface 290 (.pointer (some a))),.bool true] w fun e w'=>e=.returned (.bool true)∧Below w.heap.size w w':=by
 have hty:=fun w1=>run_eql_iface_types (P:=Tryz.prog) 161 290 (.agg #[.int .i64 p,.int .i64 c]) (.pointer (some a)) Tryz.underlying81 (by decide) w1
 have hI:=hasIs
 have mI:=methodIs
 go_enter Tryz.func156,Tryz.ntmps156
 go_wp2
 refine wp_loop_rounds 1 ?_
 rw [rounds_succ]
 go_wp2_with fail
 refine (faultIs_any p c a _ hg).mono ?_
 rintro r w1 ⟨rfl,hb1⟩
 go_wp2
 go_ret
 exact ⟨rfl,hb1⟩
theorem Is_fault (p c:Int) (a:Addr) (w:World) (hg:w.cell? ⟨0,0,none⟩=some (.iface 290 (.pointer (some a)))) :
  Calls Tryz.prog 93 #[(.iface 161 (.agg #[.int .i64 p,.int .i64 c])),(.iface 290 (.pointer (some a)))] w fun e w'=>e=.returned (.bool true)∧Below w.heap.size w w':=by
 have h8:=@run_callFunc_extern Tryz.prog 155 _ ReflectliteType.typeOf Tryz.func155 (by kernel_rfl) (by kernel_rfl) (by kernel_rfl) (by kernel_rfl)
 have h32 := @run_callFunc_extern Tryz.prog 266 _ (ReflectliteType.method fun t => do Rtype.noPackHeld "Comparable" t; pure (.bool (← typeInfo t).comparable)) Tryz.func266 (by kernel_rfl) (by kernel_rfl) (by kernel_rfl) (by kernel_rfl)
 have tT:=isTypeOf
 have cT:=isComparable
 have mR:=isMethodComparable
 have hty:=fun w1=>run_eql_iface_nil_left (P:=Tryz.prog) w1 161 (.agg #[.int .i64 p,.int .i64 c]) Tryz.underlying81
 go_enter Tryz.func93,Tryz.ntmps93
 go_wp2_with fail
 refine (is_fault p c a _ hg).mono ?_
 rintro r w1 ⟨rfl,hb1⟩
 go_wp2
 go_ret
 exact ⟨rfl,hb1⟩
theorem asValueOfP (t:Addr) (w:World):(ReflectliteValue.unpack (.iface 164 (.pointer (some t)))).run Tryz.prog w=.ok (.agg #[.pointer (some ⟨8,164,none⟩),.pointer (some ⟨w.heap.size,0,none⟩),.int .u64 150]) (w.alloc (.cells #[.pointer (some t)] 164)):=by kernel_rfl
theorem asTypeP (a : Addr) (w : World) : ((ReflectliteValue.methodAny (ReflectliteValue.valueError "reflectlite.Value.Type" 0) fun t _ _ _ => ReflectliteType.toType t) #[.agg #[.pointer (some ⟨8, 164, none⟩), .pointer (some a), .int .u64 150]]).run Tryz.prog w = .ok (.iface 236 (.agg #[.pointer (some ⟨8, 164, none⟩)])) w := by kernel_rfl
theorem asMethodKind (h : Value) (w : World) : (Go.method 421 236 (.agg #[h]) "Kind").run Tryz.prog w = .ok (251, h) w := by kernel_rfl
theorem asKindP (w:World):((ReflectliteType.abiMethod fun t=>(fun a:Nat=>Value.int IntKind.u8 (a:Int)) <$> Rtype.kind t) #[.pointer (some ⟨8,164,none⟩)]).run Tryz.prog w=.ok (.int .u8 22) w:=by kernel_rfl
theorem asKindT (w:World):((ReflectliteType.abiMethod fun t=>(fun a:Nat=>Value.int IntKind.u8 (a:Int)) <$> Rtype.kind t) #[.pointer (some ⟨8,161,none⟩)]).run Tryz.prog w=.ok (.int .u8 25) w:=by kernel_rfl
theorem rlm (z:Sem Value) (f:TypeId → Addr → Nat → Nat → Sem Value) (v:Value) :
  ReflectliteValue.method z f #[v]=(do match ← ReflectliteValue.parts v with|none=>z|some (t,a,fl)=>f t a fl (fl % 32)):=rfl
theorem asPartsP (a:Addr) (w:World):(ReflectliteValue.parts (.agg #[.pointer (some ⟨8,164,none⟩),.pointer (some a),.int .u64 150])).run Tryz.prog w=.ok (some (164,a,150)) w:=by kernel_rfl
theorem asIsNilP (a p : Addr) (W : World) (ha : W.cell? a = some (.pointer (some p))) : ((ReflectliteValue.method (ReflectliteValue.valueError "reflectlite.Value.IsNil" 0) ReflectliteValue.isNil) #[.agg #[.pointer (some ⟨8, 164, none⟩), .pointer (some a), .int .u64 150]]).run Tryz.prog W = .ok (.bool false) W := by
 rw [rlm]
 simp only [Sem.run_bind,asPartsP,Result.andThen]
 simp [ReflectliteValue.isNil,loadVar,isAgg,underlying,Tryz.underlying164,ha,Result.andThen]
theorem asMethodElem (h : Value) (w : World) : (Go.method 421 236 (.agg #[h]) "Elem").run Tryz.prog w = .ok (267, .agg #[h]) w := by kernel_rfl
theorem asMethodImplements (h : Value) (w : World) : (Go.method 421 236 (.agg #[h]) "Implements").run Tryz.prog w = .ok (268, .agg #[h]) w := by kernel_rfl
theorem asMethodAssignableTo (h : Value) (w : World) : (Go.method 421 236 (.agg #[h]) "AssignableTo").run Tryz.prog w = .ok (265, .agg #[h]) w := by kernel_rfl
theorem asElemP (w:World):(ReflectliteType.method ReflectliteType.elem #[.agg #[.pointer (some ⟨8,164,none⟩)]]).run Tryz.prog w=.ok (.iface 236 (.agg #[.pointer (some ⟨8,161,none⟩)])) w:=by kernel_rfl
theorem asImplementsT (w : World) : (ReflectliteType.relation "Implements" ReflectliteType.implements_ #[.agg #[.pointer (some ⟨8, 161, none⟩)], (.iface 236 (.agg #[.pointer (some ⟨8, 81, none⟩)]))]).run Tryz.prog w = .ok (.bool true) w := by kernel_rfl
theorem asTypeOfT (v:Value) (w:World):(ReflectliteType.typeOf #[.iface 161 v]).run Tryz.prog w=.ok (.iface 236 (.agg #[.pointer (some ⟨8,161,none⟩)])) w:=by kernel_rfl
theorem asAssignableT (w : World) : (ReflectliteType.relation "AssignableTo" ReflectliteType.assignableTo #[.agg #[.pointer (some ⟨8, 161, none⟩)], (.iface 236 (.agg #[.pointer (some ⟨8, 161, none⟩)]))]).run Tryz.prog w = .ok (.bool true) w := by kernel_rfl
theorem asValueOfT (p c:Int) (w:World):(ReflectliteValue.unpack (.iface 161 (.agg #[.int .i64 p,.int .i64 c]))).run Tryz.prog w=.ok (.agg #[.pointer (some ⟨8,161,none⟩),.pointer (some ⟨w.heap.size,0,none⟩),.int .u64 153]) (w.alloc (.cells #[.int .i64 p,.int .i64 c] 161)):=by kernel_rfl
theorem asElemOfP (w:World):(Rtype.elem? 164).run Tryz.prog w=.ok (some 161) w:=by kernel_rfl
theorem asMkT (p:Addr) (w:World):(ReflectliteValue.mk 161 p ReflectliteValue.flagAddr).run Tryz.prog w=.ok (.agg #[.pointer (some ⟨8,161,none⟩),.pointer (some p),.int .u64 409]) w:=by kernel_rfl
theorem asElemVP (a p : Addr) (W : World) (ha : W.cell? a = some (.pointer (some p))) : ((ReflectliteValue.method (ReflectliteValue.valueError "reflectlite.Value.Elem" 0) ReflectliteValue.elem) #[.agg #[.pointer (some ⟨8, 164, none⟩), .pointer (some a), .int .u64 150]]).run Tryz.prog W = .ok (.agg #[.pointer (some ⟨8, 161, none⟩), .pointer (some p), .int .u64 409]) W := by
 rw [rlm]
 simp only [Sem.run_bind,asPartsP,Result.andThen]
 simp [ReflectliteValue.elem,loadVar,isAgg,underlying,Tryz.underlying164,ha,Result.andThen,asElemOfP,asMkT]
theorem rls (v x:Value):ReflectliteValue.set #[v,x]=(do
  let (some (dst,a,fl),some (src,b,_)):=(← ReflectliteValue.parts v,← ReflectliteValue.parts x)
   | unsupported (.noEntry "extern/(internal/reflectlite.Value).Set.zeroValue")
  if fl / ReflectliteValue.flagAddr % 2 == 0 then unsupported (.noEntry "extern/(internal/reflectlite.Value).Set.unaddressable")
  let val ← loadVar src b
  if ← Rtype.directlyAssignable dst src then storeVar dst a val
  else if ← Rtype.implements dst src then
   if (← Rtype.kind src) == 20 then
    match val with
    | .nilIface => unsupported (.noEntry "extern/reflectlite: a nil value of one interface type handed on as a value of another")
    | _=>storeVar dst a val
   else storeVar dst a (.iface src val)
  else panicString ("reflectlite.Set: value of type " ++ (← Rtype.spelt src) ++ " is not assignable to type " ++ (← Rtype.spelt dst))
  pure (.tuple #[])):=rfl
theorem asPartsTa (a:Addr) (w:World):(ReflectliteValue.parts (.agg #[.pointer (some ⟨8,161,none⟩),.pointer (some a),.int .u64 409])).run Tryz.prog w=.ok (some (161,a,409)) w:=by kernel_rfl
theorem asPartsT (a:Addr) (w:World):(ReflectliteValue.parts (.agg #[.pointer (some ⟨8,161,none⟩),.pointer (some a),.int .u64 153])).run Tryz.prog w=.ok (some (161,a,153)) w:=by kernel_rfl
theorem asDirectT (w:World):(Rtype.directlyAssignable 161 161).run Tryz.prog w=.ok true w:=by kernel_rfl
theorem asSizeT (w:World):(sizeOf 161).run Tryz.prog w=.ok 2 w:=by kernel_rfl
theorem asSetT (ta b:Nat) (p c:Int) (u v:Value) (W:World) (h0:W.cell? ⟨b,0,none⟩=some (.int .i64 p)) (h1:W.cell? ⟨b,1,none⟩=some (.int .i64 c)) (t0:W.cell? ⟨ta,0,none⟩=some u) (t1:W.cell? ⟨ta,1,none⟩=some v) (hf:∀ j,W.frozen? ⟨ta,j,none⟩=false) :
  (ReflectliteValue.set #[.agg #[.pointer (some ⟨8,161,none⟩),.pointer (some ⟨ta,0,none⟩),.int .u64 409],.agg #[.pointer (some ⟨8,161,none⟩),.pointer (some ⟨b,0,none⟩),.int .u64 153]]).run Tryz.prog W
   = .ok (.tuple #[]) ((W.setCell ⟨ta,0,none⟩ (.int .i64 p)).setCell ⟨ta,1,none⟩ (.int .i64 c)):=by
 rw [rls]
 simp only [Sem.run_bind,asPartsTa,asPartsT,Result.andThen]
 simp [ReflectliteValue.flagAddr,loadVar,isAgg,underlying,Tryz.underlying161,h0,h1,Result.andThen,asDirectT,asSizeT,storeVar,Value.cells]
 have hl:(loadCells ⟨b,0,none⟩ 2).run Tryz.prog W=.ok #[.int .i64 p,.int .i64 c] W:=by simp [loadCells,loadCellsFrom,Addr.add,h0,h1,Result.andThen]
 rw [hl]
 simp [storeCells,Addr.add,Result.andThen]
 rw [run_store Tryz.prog W ⟨ta,0,none⟩ _ _ (by rfl)]
 simp [t0,hf]
 rw [run_store Tryz.prog _ ⟨ta,1,none⟩ _ _ (by rfl)]
 have e1:(W.setCell ⟨ta,0,none⟩ (.int .i64 p)).cell? ⟨ta,1,none⟩=some v:=by simp [go_sem,t1]
 simp [e1,hf]
end Go.Proofs.YtikgblkfmpecfaaGreatDoor
