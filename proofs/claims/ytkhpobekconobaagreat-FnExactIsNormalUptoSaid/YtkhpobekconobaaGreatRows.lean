/-
  No cell of these rows narrows 'for every input' (looked for: loops, veiled, ifaces, maps, wideKeys, modest, calm, conditions, laid).
  DERIVED. THE GIVEN ROWS OF THIS SEAT. 4 by the template 'for every input the law returns true; each argument reads behind the call as it read before'; 0 by the template 'total and deterministic' (their statements: YtkhpobekconobaaGreatTotals.lean).
  GIVEN WITH THE SEED: the statements are not yours to turn. If you find one false, say at which input.
  Laid BY PROGRAM, IN A SANDBOX (cutbox-rows.mjs): the forced cells as the released guide's own fill.sh prints them over the translation 05e1b2181814a87b… (all of the seat's roots in one cut). By AI agents, Wed Nov 11 2026. No macro, syntax, notation, axiom, sorry.
-/
import Derived.Test.YtkhpobekconobaaGreatChecked
import GoSem.Claim
import GoSem.ClaimJoined
import GoSem.ClaimMapViews
import Derived.JoinedTies
import Derived.KernelRfl
namespace Go.Proofs.YtkhpobekconobaaGreat
/- THE CELL 'sum', in the pinned program and in every row, IS THE sha256 OF THE DUMP (.gsa) THAT YtkhpobekconobaaGreatProg.lean LOADS. Nothing in Lean hashes anything: it is a label: what it is worth is what the hold of that sum in a sandbox is worth. -/
noncomputable def Tryz.pinned : Pinned := { name := "ytkhpobekconobaagreat", sum := "05e1b2181814a87b0be1abe62da244c8b2fc6ecae31b05bab9aa4fb0024e07ad", checked := Tryz.checked }
namespace Rows
def none {H : Type} : Left H := { results := [], args := [] }

/-- 'laws.FnExactIsNormal': WHATEVER THE INPUT: true; the input reads as it did. -/
def fnExactIsNormalSpec : ChangeSpec := { name := "fnExactIsNormal", fn := fun _ => fun
  | [d1, d2] => { results := [.lit (.bool true)], args := [d1, d2] }
  | _ => none }
def fnExactIsNormalRow : OpenClaim := { program := "ytkhpobekconobaagreat", sum := "05e1b2181814a87b0be1abe62da244c8b2fc6ecae31b05bab9aa4fb0024e07ad", func := "loop.example/g01073/laws.FnExactIsNormal", spec := "fnExactIsNormal", unfollowed := true, recurses := true, apart := false }
def FnExactIsNormalSaid : Prop := fnExactIsNormalRow.holds Tryz.pinned (OpenSpec.ofChange fnExactIsNormalSpec)

/-- ITS FALSE NEIGHBOUR: 'it returns false'. Refute it at one input. -/
def fnExactIsNormalWrong : ChangeSpec := { name := "fnExactIsNormal", fn := fun _ => fun
  | [d1, d2] => { results := [.lit (.bool false)], args := [d1, d2] }
  | _ => none }
def FnExactIsNormalWrongFalsely : Prop := fnExactIsNormalRow.holds Tryz.pinned (OpenSpec.ofChange fnExactIsNormalWrong)

/-- 'laws.FnExactMovesFrom': WHATEVER THE INPUT: true; the input reads as it did. -/
def fnExactMovesFromSpec : ChangeSpec := { name := "fnExactMovesFrom", fn := fun _ => fun
  | [d1, d2] => { results := [.lit (.bool true)], args := [d1, d2] }
  | _ => none }
def fnExactMovesFromRow : OpenClaim := { program := "ytkhpobekconobaagreat", sum := "05e1b2181814a87b0be1abe62da244c8b2fc6ecae31b05bab9aa4fb0024e07ad", func := "loop.example/g01073/laws.FnExactMovesFrom", spec := "fnExactMovesFrom", unfollowed := true, recurses := true, apart := false }
def FnExactMovesFromSaid : Prop := fnExactMovesFromRow.holds Tryz.pinned (OpenSpec.ofChange fnExactMovesFromSpec)

/-- ITS FALSE NEIGHBOUR: 'it returns false'. Refute it at one input. -/
def fnExactMovesFromWrong : ChangeSpec := { name := "fnExactMovesFrom", fn := fun _ => fun
  | [d1, d2] => { results := [.lit (.bool false)], args := [d1, d2] }
  | _ => none }
def FnExactMovesFromWrongFalsely : Prop := fnExactMovesFromRow.holds Tryz.pinned (OpenSpec.ofChange fnExactMovesFromWrong)

/-- 'laws.FnExactNormalizeFirst': WHATEVER THE INPUT: true; the input reads as it did. -/
def fnExactNormalizeFirstSpec : ChangeSpec := { name := "fnExactNormalizeFirst", fn := fun _ => fun
  | [d1, d2, d3] => { results := [.lit (.bool true)], args := [d1, d2, d3] }
  | _ => none }
def fnExactNormalizeFirstRow : OpenClaim := { program := "ytkhpobekconobaagreat", sum := "05e1b2181814a87b0be1abe62da244c8b2fc6ecae31b05bab9aa4fb0024e07ad", func := "loop.example/g01073/laws.FnExactNormalizeFirst", spec := "fnExactNormalizeFirst", unfollowed := true, recurses := true, apart := false }
def FnExactNormalizeFirstSaid : Prop := fnExactNormalizeFirstRow.holds Tryz.pinned (OpenSpec.ofChange fnExactNormalizeFirstSpec)

/-- ITS FALSE NEIGHBOUR: 'it returns false'. Refute it at one input. -/
def fnExactNormalizeFirstWrong : ChangeSpec := { name := "fnExactNormalizeFirst", fn := fun _ => fun
  | [d1, d2, d3] => { results := [.lit (.bool false)], args := [d1, d2, d3] }
  | _ => none }
def FnExactNormalizeFirstWrongFalsely : Prop := fnExactNormalizeFirstRow.holds Tryz.pinned (OpenSpec.ofChange fnExactNormalizeFirstWrong)

/-- 'laws.FnExactNormalizeLast': WHATEVER THE INPUT: true; the input reads as it did. -/
def fnExactNormalizeLastSpec : ChangeSpec := { name := "fnExactNormalizeLast", fn := fun _ => fun
  | [d1, d2, d3] => { results := [.lit (.bool true)], args := [d1, d2, d3] }
  | _ => none }
def fnExactNormalizeLastRow : OpenClaim := { program := "ytkhpobekconobaagreat", sum := "05e1b2181814a87b0be1abe62da244c8b2fc6ecae31b05bab9aa4fb0024e07ad", func := "loop.example/g01073/laws.FnExactNormalizeLast", spec := "fnExactNormalizeLast", unfollowed := true, recurses := true, apart := false }
def FnExactNormalizeLastSaid : Prop := fnExactNormalizeLastRow.holds Tryz.pinned (OpenSpec.ofChange fnExactNormalizeLastSpec)

/-- ITS FALSE NEIGHBOUR: 'it returns false'. Refute it at one input. -/
def fnExactNormalizeLastWrong : ChangeSpec := { name := "fnExactNormalizeLast", fn := fun _ => fun
  | [d1, d2, d3] => { results := [.lit (.bool false)], args := [d1, d2, d3] }
  | _ => none }
def FnExactNormalizeLastWrongFalsely : Prop := fnExactNormalizeLastRow.holds Tryz.pinned (OpenSpec.ofChange fnExactNormalizeLastWrong)

/- THE SECOND FORM. 'bulk': how many values and letters a reading holds, each counted each time it is reached (what is shared counts as often as it is met; a slice's spare places count too). A statement '..UptoSaid' is the law's where the arguments, and the package variables that the reading takes, are together of bulk at most 1048576: NARROWER than '..Said'. Prove '..Said' where nothing that the law and all that it calls make is longer than what came in: it says more and counts as full. Else prove '..UptoSaid'. A law counts once. -/
mutual
def uptoBulk {H : Type} : DataW H → Nat
  | .lit (.string bytes) => bytes.length + 1
  | .lit _ => 1
  | .nil => 1
  | .ptr d => uptoBulk d + 1
  | .slice elems spare => uptoBulkAll elems + uptoBulkAll spare + 1
  | .agg parts => uptoBulkAll parts + 1
  | .iface _ d => uptoBulk d + 1
  | .map entries => uptoBulkEntries entries + 1
  | .held _ => 1
def uptoBulkAll {H : Type} : List (DataW H) → Nat
  | [] => 0
  | d :: r => uptoBulk d + uptoBulkAll r
def uptoBulkEntries {H : Type} : List (Lit × DataW H) → Nat
  | [] => 0
  | x :: r => uptoBulkEntry x + uptoBulkEntries r
def uptoBulkEntry {H : Type} : Lit × DataW H → Nat
  | (.string bytes, d) => bytes.length + uptoBulk d + 1
  | (_, d) => uptoBulk d + 1
 end
def uptoSmall : (H : Type) → List (DataW H) → Bool := fun _ ds => decide (uptoBulkAll ds ≤ 1048576)
def OpenSpec.upto (s : _root_.Go.ChangeSpec) : _root_.Go.OpenSpec := { _root_.Go.OpenSpec.ofChange s with cond := some uptoSmall }

/-- 'laws.FnExactIsNormal', WHERE WHAT IT READS IS OF BULK AT MOST 1048576: true; the input reads as it did. -/
def fnExactIsNormalUptoRow : OpenClaim := { program := "ytkhpobekconobaagreat", sum := "05e1b2181814a87b0be1abe62da244c8b2fc6ecae31b05bab9aa4fb0024e07ad", func := "loop.example/g01073/laws.FnExactIsNormal", spec := "fnExactIsNormal", unfollowed := true, recurses := true, apart := false, narrowed := true }
def FnExactIsNormalUptoSaid : Prop := fnExactIsNormalUptoRow.holds Tryz.pinned (OpenSpec.upto fnExactIsNormalSpec)

/-- 'laws.FnExactMovesFrom', WHERE WHAT IT READS IS OF BULK AT MOST 1048576: true; the input reads as it did. -/
def fnExactMovesFromUptoRow : OpenClaim := { program := "ytkhpobekconobaagreat", sum := "05e1b2181814a87b0be1abe62da244c8b2fc6ecae31b05bab9aa4fb0024e07ad", func := "loop.example/g01073/laws.FnExactMovesFrom", spec := "fnExactMovesFrom", unfollowed := true, recurses := true, apart := false, narrowed := true }
def FnExactMovesFromUptoSaid : Prop := fnExactMovesFromUptoRow.holds Tryz.pinned (OpenSpec.upto fnExactMovesFromSpec)

/-- 'laws.FnExactNormalizeFirst', WHERE WHAT IT READS IS OF BULK AT MOST 1048576: true; the input reads as it did. -/
def fnExactNormalizeFirstUptoRow : OpenClaim := { program := "ytkhpobekconobaagreat", sum := "05e1b2181814a87b0be1abe62da244c8b2fc6ecae31b05bab9aa4fb0024e07ad", func := "loop.example/g01073/laws.FnExactNormalizeFirst", spec := "fnExactNormalizeFirst", unfollowed := true, recurses := true, apart := false, narrowed := true }
def FnExactNormalizeFirstUptoSaid : Prop := fnExactNormalizeFirstUptoRow.holds Tryz.pinned (OpenSpec.upto fnExactNormalizeFirstSpec)

/-- 'laws.FnExactNormalizeLast', WHERE WHAT IT READS IS OF BULK AT MOST 1048576: true; the input reads as it did. -/
def fnExactNormalizeLastUptoRow : OpenClaim := { program := "ytkhpobekconobaagreat", sum := "05e1b2181814a87b0be1abe62da244c8b2fc6ecae31b05bab9aa4fb0024e07ad", func := "loop.example/g01073/laws.FnExactNormalizeLast", spec := "fnExactNormalizeLast", unfollowed := true, recurses := true, apart := false, narrowed := true }
def FnExactNormalizeLastUptoSaid : Prop := fnExactNormalizeLastUptoRow.holds Tryz.pinned (OpenSpec.upto fnExactNormalizeLastSpec)

end Rows
end Go.Proofs.YtkhpobekconobaaGreat
