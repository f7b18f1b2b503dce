/-
  NARROWER THAN 'FOR EVERY INPUT', by the rows' own cells (each row's printed sentence says how): FnExactParseDef: laid · FnExactParseLibrary: laid · FnExactParseTerm: ifaces, laid · FnExactEntryText: laid · FnExactApplyEntry: laid · FnExactJournalOf: laid · FnExactRecordOf: laid · FnExactParseEntry: laid · FnExactCountAcknowledged: laid · FnExactCompactJournal: laid · FnExactRecoverLibrary: laid · FnExactRecoverDisk: laid · FnExactWriteEntry: laid.
  DERIVED. THE GIVEN ROWS OF THIS SEAT. 13 by the template 'for every input the law returns true; each argument reads behind the call as it read before'; 0 by the template 'total and deterministic' (their statements: YtldhpaflmnlcaaaGreatDoorTotals.lean).
  GIVEN WITH THE SEED: the statements are not yours to turn. If you find one false, say at which input.
  Laid BY PROGRAM, IN A SANDBOX (cutbox-rows.mjs): the forced cells as the released guide's own fill.sh prints them over the translation 4a1db6a80d99516b… (all of the seat's roots in one cut). By AI agents, Wed Nov 11 2026. No macro, syntax, notation, axiom, sorry.
-/
import Derived.Test.YtldhpaflmnlcaaaGreatDoorChecked
import GoSem.Claim
import GoSem.ClaimJoined
import GoSem.ClaimMapViews
import Derived.JoinedTies
import Derived.KernelRfl
namespace Go.Proofs.YtldhpaflmnlcaaaGreatDoor
/- THE CELL 'sum', in the pinned program and in every row, IS THE sha256 OF THE DUMP (.gsa) THAT YtldhpaflmnlcaaaGreatDoorProg.lean LOADS. Nothing in Lean hashes anything: it is a label: what it is worth is what the hold of that sum in a sandbox is worth. -/
noncomputable def Tryz.pinned : Pinned := { name := "ytldhpaflmnlcaaagreatdoor", sum := "4a1db6a80d99516b335b3fe979e33dc7fbf226a37c616cbd7018abe9ce55186b", checked := Tryz.checked }
namespace Rows
def none {H : Type} : Left H := { results := [], args := [] }

/- WHAT THE LISTED PACKAGE-LEVEL VARIABLES READ AS WHEN THE CALL BEGINS. Each datum BY PROGRAM (the guide's laid-datum.mjs) off the statement by which the dump's own 'gosem.cut.vars' lays the variable. In a bare row this is a premise. The card (YtldhpaflmnlcaaaGreatDoorCards.lean) ties it to the program's text. -/
def laid_math_bits_deBruijn32tab {H : Type} : DataW H := .agg [.lit (.int .u8 0), .lit (.int .u8 1), .lit (.int .u8 28), .lit (.int .u8 2), .lit (.int .u8 29), .lit (.int .u8 14), .lit (.int .u8 24), .lit (.int .u8 3), .lit (.int .u8 30), .lit (.int .u8 22), .lit (.int .u8 20), .lit (.int .u8 15), .lit (.int .u8 25), .lit (.int .u8 17), .lit (.int .u8 4), .lit (.int .u8 8), .lit (.int .u8 31), .lit (.int .u8 27), .lit (.int .u8 13), .lit (.int .u8 23), .lit (.int .u8 21), .lit (.int .u8 19), .lit (.int .u8 16), .lit (.int .u8 7), .lit (.int .u8 26), .lit (.int .u8 12), .lit (.int .u8 18), .lit (.int .u8 6), .lit (.int .u8 11), .lit (.int .u8 5), .lit (.int .u8 10), .lit (.int .u8 9)]
def laid_math_bits_deBruijn64tab {H : Type} : DataW H := .agg [.lit (.int .u8 0), .lit (.int .u8 1), .lit (.int .u8 56), .lit (.int .u8 2), .lit (.int .u8 57), .lit (.int .u8 49), .lit (.int .u8 28), .lit (.int .u8 3), .lit (.int .u8 61), .lit (.int .u8 58), .lit (.int .u8 42), .lit (.int .u8 50), .lit (.int .u8 38), .lit (.int .u8 29), .lit (.int .u8 17), .lit (.int .u8 4), .lit (.int .u8 62), .lit (.int .u8 47), .lit (.int .u8 59), .lit (.int .u8 36), .lit (.int .u8 45), .lit (.int .u8 43), .lit (.int .u8 51), .lit (.int .u8 22), .lit (.int .u8 53), .lit (.int .u8 39), .lit (.int .u8 33), .lit (.int .u8 30), .lit (.int .u8 24), .lit (.int .u8 18), .lit (.int .u8 12), .lit (.int .u8 5), .lit (.int .u8 63), .lit (.int .u8 55), .lit (.int .u8 48), .lit (.int .u8 27), .lit (.int .u8 60), .lit (.int .u8 41), .lit (.int .u8 37), .lit (.int .u8 16), .lit (.int .u8 46), .lit (.int .u8 35), .lit (.int .u8 44), .lit (.int .u8 21), .lit (.int .u8 52), .lit (.int .u8 32), .lit (.int .u8 23), .lit (.int .u8 11), .lit (.int .u8 54), .lit (.int .u8 26), .lit (.int .u8 40), .lit (.int .u8 15), .lit (.int .u8 34), .lit (.int .u8 20), .lit (.int .u8 31), .lit (.int .u8 10), .lit (.int .u8 25), .lit (.int .u8 14), .lit (.int .u8 19), .lit (.int .u8 9), .lit (.int .u8 13), .lit (.int .u8 8), .lit (.int .u8 7), .lit (.int .u8 6)]
def laid_internal_strconv_uint64pow10 {H : Type} : DataW H := .agg [.lit (.int .u64 1), .lit (.int .u64 10), .lit (.int .u64 100), .lit (.int .u64 1000), .lit (.int .u64 10000), .lit (.int .u64 100000), .lit (.int .u64 1000000), .lit (.int .u64 10000000), .lit (.int .u64 100000000), .lit (.int .u64 1000000000), .lit (.int .u64 10000000000), .lit (.int .u64 100000000000), .lit (.int .u64 1000000000000), .lit (.int .u64 10000000000000), .lit (.int .u64 100000000000000), .lit (.int .u64 1000000000000000), .lit (.int .u64 10000000000000000), .lit (.int .u64 100000000000000000), .lit (.int .u64 1000000000000000000), .lit (.int .u64 10000000000000000000)]
def laid_strconv_ErrRange {H : Type} : DataW H := .iface "*errors.errorString" (.ptr (.agg [.lit (.string [118, 97, 108, 117, 101, 32, 111, 117, 116, 32, 111, 102, 32, 114, 97, 110, 103, 101])]))
def laid_strconv_ErrSyntax {H : Type} : DataW H := .iface "*errors.errorString" (.ptr (.agg [.lit (.string [105, 110, 118, 97, 108, 105, 100, 32, 115, 121, 110, 116, 97, 120])]))
def laid_errors_errorType {H : Type} : DataW H := .iface "internal/reflectlite.rtype" (.agg [.ptr (.lit (.string [101, 114, 114, 111, 114]))])
def laid_loop_example_g01073_impl_errFault {H : Type} : DataW H := .iface "*errors.errorString" (.ptr (.agg [.lit (.string [102, 97, 117, 108, 116, 32, 111, 102, 32, 97, 32, 116, 101, 120, 116])]))

/-- 'laws.FnExactParseDef': WHATEVER THE INPUT: true; the input reads as it did. -/
def fnExactParseDefSpec : ChangeSpec := { name := "fnExactParseDef", fn := fun _ => fun
  | [d1, d2] => { results := [.lit (.bool true)], args := [d1, d2] }
  | _ => none }
def fnExactParseDefRow : OpenClaim := { program := "ytldhpaflmnlcaaagreatdoor", sum := "4a1db6a80d99516b335b3fe979e33dc7fbf226a37c616cbd7018abe9ce55186b", func := "loop.example/g01073/laws.FnExactParseDef", spec := "fnExactParseDef", inPlace := ["internal/bytealg.IndexByteString"], unfollowed := true, recurses := true, named := ["strconv.ErrSyntax", "strconv.ErrRange", "internal/strconv.uint64pow10", "math/bits.deBruijn32tab", "math/bits.deBruijn64tab"], apart := false, laid := [("math/bits.deBruijn32tab", laid_math_bits_deBruijn32tab), ("math/bits.deBruijn64tab", laid_math_bits_deBruijn64tab), ("internal/strconv.uint64pow10", laid_internal_strconv_uint64pow10), ("strconv.ErrRange", laid_strconv_ErrRange), ("strconv.ErrSyntax", laid_strconv_ErrSyntax)] }
def FnExactParseDefSaid : Prop := fnExactParseDefRow.holds Tryz.pinned (OpenSpec.ofChange fnExactParseDefSpec)

/-- ITS FALSE NEIGHBOUR: 'it returns false'. Refute it at one input. -/
def fnExactParseDefWrong : ChangeSpec := { name := "fnExactParseDef", fn := fun _ => fun
  | [d1, d2] => { results := [.lit (.bool false)], args := [d1, d2] }
  | _ => none }
def FnExactParseDefWrongFalsely : Prop := fnExactParseDefRow.holds Tryz.pinned (OpenSpec.ofChange fnExactParseDefWrong)

/-- 'laws.FnExactParseLibrary': WHATEVER THE INPUT: true; the input reads as it did. -/
def fnExactParseLibrarySpec : ChangeSpec := { name := "fnExactParseLibrary", fn := fun _ => fun
  | [d] => { results := [.lit (.bool true)], args := [d] }
  | _ => none }
def fnExactParseLibraryRow : OpenClaim := { program := "ytldhpaflmnlcaaagreatdoor", sum := "4a1db6a80d99516b335b3fe979e33dc7fbf226a37c616cbd7018abe9ce55186b", func := "loop.example/g01073/laws.FnExactParseLibrary", spec := "fnExactParseLibrary", inPlace := ["internal/bytealg.IndexByteString", "internal/bytealg.IndexString"], unfollowed := true, recurses := true, named := ["internal/bytealg.MaxLen", "strconv.ErrSyntax", "strconv.ErrRange", "internal/strconv.uint64pow10", "math/bits.deBruijn32tab", "math/bits.deBruijn64tab"], apart := false, laid := [("math/bits.deBruijn32tab", laid_math_bits_deBruijn32tab), ("math/bits.deBruijn64tab", laid_math_bits_deBruijn64tab), ("internal/strconv.uint64pow10", laid_internal_strconv_uint64pow10), ("strconv.ErrRange", laid_strconv_ErrRange), ("strconv.ErrSyntax", laid_strconv_ErrSyntax)] }
def FnExactParseLibrarySaid : Prop := fnExactParseLibraryRow.holds Tryz.pinned (OpenSpec.ofChange fnExactParseLibrarySpec)

/-- ITS FALSE NEIGHBOUR: 'it returns false'. Refute it at one input. -/
def fnExactParseLibraryWrong : ChangeSpec := { name := "fnExactParseLibrary", fn := fun _ => fun
  | [d] => { results := [.lit (.bool false)], args := [d] }
  | _ => none }
def FnExactParseLibraryWrongFalsely : Prop := fnExactParseLibraryRow.holds Tryz.pinned (OpenSpec.ofChange fnExactParseLibraryWrong)

/-- 'laws.FnExactParseTerm': WHATEVER THE INPUT: true; the input reads as it did. -/
def fnExactParseTermSpec : ChangeSpec := { name := "fnExactParseTerm", vars := ["loop.example/g01073/impl.errFault"], fn := fun _ => fun
  | [d1, d2, g1] => { results := [.lit (.bool true)], args := [d1, d2], vars := [g1] }
  | _ => none }
def fnExactParseTermRow : OpenClaim := { program := "ytldhpaflmnlcaaagreatdoor", sum := "4a1db6a80d99516b335b3fe979e33dc7fbf226a37c616cbd7018abe9ce55186b", func := "loop.example/g01073/laws.FnExactParseTerm", spec := "fnExactParseTerm", inPlace := ["internal/bytealg.IndexByteString", "internal/reflectlite.TypeOf", "internal/reflectlite.ValueOf", "(internal/reflectlite.Value).Type", "(internal/reflectlite.Value).IsNil", "(internal/reflectlite.Value).Elem", "(internal/reflectlite.Value).Set"], unfollowed := true, recurses := true, named := ["strconv.ErrSyntax", "strconv.ErrRange", "internal/strconv.uint64pow10", "math/bits.deBruijn32tab", "math/bits.deBruijn64tab", "loop.example/g01073/impl.errFault", "errors.errorType"], ifaces := true, apart := false, laid := [("math/bits.deBruijn32tab", laid_math_bits_deBruijn32tab), ("math/bits.deBruijn64tab", laid_math_bits_deBruijn64tab), ("internal/strconv.uint64pow10", laid_internal_strconv_uint64pow10), ("errors.errorType", laid_errors_errorType), ("strconv.ErrRange", laid_strconv_ErrRange), ("strconv.ErrSyntax", laid_strconv_ErrSyntax), ("loop.example/g01073/impl.errFault", laid_loop_example_g01073_impl_errFault)] }
def FnExactParseTermSaid : Prop := fnExactParseTermRow.holds Tryz.pinned (OpenSpec.ofChange fnExactParseTermSpec)

/-- ITS FALSE NEIGHBOUR: 'it returns false'. Refute it at one input. -/
def fnExactParseTermWrong : ChangeSpec := { name := "fnExactParseTerm", vars := ["loop.example/g01073/impl.errFault"], fn := fun _ => fun
  | [d1, d2, g1] => { results := [.lit (.bool false)], args := [d1, d2], vars := [g1] }
  | _ => none }
def FnExactParseTermWrongFalsely : Prop := fnExactParseTermRow.holds Tryz.pinned (OpenSpec.ofChange fnExactParseTermWrong)

/-- 'laws.FnExactEntryText': WHATEVER THE INPUT: true; the input reads as it did. -/
def fnExactEntryTextSpec : ChangeSpec := { name := "fnExactEntryText", fn := fun _ => fun
  | [d1, d2] => { results := [.lit (.bool true)], args := [d1, d2] }
  | _ => none }
def fnExactEntryTextRow : OpenClaim := { program := "ytldhpaflmnlcaaagreatdoor", sum := "4a1db6a80d99516b335b3fe979e33dc7fbf226a37c616cbd7018abe9ce55186b", func := "loop.example/g01073/laws.FnExactEntryText", spec := "fnExactEntryText", inPlace := ["internal/bytealg.IndexByteString", "internal/bytealg.IndexString"], unfollowed := true, recurses := true, named := ["internal/strconv.uint64pow10", "math/bits.deBruijn32tab", "math/bits.deBruijn64tab", "strconv.ErrSyntax", "strconv.ErrRange", "internal/bytealg.MaxLen"], apart := false, laid := [("math/bits.deBruijn32tab", laid_math_bits_deBruijn32tab), ("math/bits.deBruijn64tab", laid_math_bits_deBruijn64tab), ("internal/strconv.uint64pow10", laid_internal_strconv_uint64pow10), ("strconv.ErrRange", laid_strconv_ErrRange), ("strconv.ErrSyntax", laid_strconv_ErrSyntax)] }
def FnExactEntryTextSaid : Prop := fnExactEntryTextRow.holds Tryz.pinned (OpenSpec.ofChange fnExactEntryTextSpec)

/-- ITS FALSE NEIGHBOUR: 'it returns false'. Refute it at one input. -/
def fnExactEntryTextWrong : ChangeSpec := { name := "fnExactEntryText", fn := fun _ => fun
  | [d1, d2] => { results := [.lit (.bool false)], args := [d1, d2] }
  | _ => none }
def FnExactEntryTextWrongFalsely : Prop := fnExactEntryTextRow.holds Tryz.pinned (OpenSpec.ofChange fnExactEntryTextWrong)

/-- 'laws.FnExactApplyEntry': WHATEVER THE INPUT: true; the input reads as it did. -/
def fnExactApplyEntrySpec : ChangeSpec := { name := "fnExactApplyEntry", fn := fun _ => fun
  | [d1, d2] => { results := [.lit (.bool true)], args := [d1, d2] }
  | _ => none }
def fnExactApplyEntryRow : OpenClaim := { program := "ytldhpaflmnlcaaagreatdoor", sum := "4a1db6a80d99516b335b3fe979e33dc7fbf226a37c616cbd7018abe9ce55186b", func := "loop.example/g01073/laws.FnExactApplyEntry", spec := "fnExactApplyEntry", inPlace := ["internal/bytealg.IndexByteString", "internal/bytealg.IndexString"], unfollowed := true, recurses := true, named := ["internal/strconv.uint64pow10", "math/bits.deBruijn32tab", "math/bits.deBruijn64tab", "strconv.ErrSyntax", "strconv.ErrRange", "internal/bytealg.MaxLen"], apart := false, laid := [("math/bits.deBruijn32tab", laid_math_bits_deBruijn32tab), ("math/bits.deBruijn64tab", laid_math_bits_deBruijn64tab), ("internal/strconv.uint64pow10", laid_internal_strconv_uint64pow10), ("strconv.ErrRange", laid_strconv_ErrRange), ("strconv.ErrSyntax", laid_strconv_ErrSyntax)] }
def FnExactApplyEntrySaid : Prop := fnExactApplyEntryRow.holds Tryz.pinned (OpenSpec.ofChange fnExactApplyEntrySpec)

/-- ITS FALSE NEIGHBOUR: 'it returns false'. Refute it at one input. -/
def fnExactApplyEntryWrong : ChangeSpec := { name := "fnExactApplyEntry", fn := fun _ => fun
  | [d1, d2] => { results := [.lit (.bool false)], args := [d1, d2] }
  | _ => none }
def FnExactApplyEntryWrongFalsely : Prop := fnExactApplyEntryRow.holds Tryz.pinned (OpenSpec.ofChange fnExactApplyEntryWrong)

/-- 'laws.FnExactJournalOf': WHATEVER THE INPUT: true; the input reads as it did. -/
def fnExactJournalOfSpec : ChangeSpec := { name := "fnExactJournalOf", fn := fun _ => fun
  | [d] => { results := [.lit (.bool true)], args := [d] }
  | _ => none }
def fnExactJournalOfRow : OpenClaim := { program := "ytldhpaflmnlcaaagreatdoor", sum := "4a1db6a80d99516b335b3fe979e33dc7fbf226a37c616cbd7018abe9ce55186b", func := "loop.example/g01073/laws.FnExactJournalOf", spec := "fnExactJournalOf", inPlace := ["internal/bytealg.IndexByteString", "internal/bytealg.IndexString"], unfollowed := true, recurses := true, named := ["internal/strconv.uint64pow10", "math/bits.deBruijn32tab", "math/bits.deBruijn64tab", "strconv.ErrSyntax", "strconv.ErrRange", "internal/bytealg.MaxLen"], apart := false, laid := [("math/bits.deBruijn32tab", laid_math_bits_deBruijn32tab), ("math/bits.deBruijn64tab", laid_math_bits_deBruijn64tab), ("internal/strconv.uint64pow10", laid_internal_strconv_uint64pow10), ("strconv.ErrRange", laid_strconv_ErrRange), ("strconv.ErrSyntax", laid_strconv_ErrSyntax)] }
def FnExactJournalOfSaid : Prop := fnExactJournalOfRow.holds Tryz.pinned (OpenSpec.ofChange fnExactJournalOfSpec)

/-- ITS FALSE NEIGHBOUR: 'it returns false'. Refute it at one input. -/
def fnExactJournalOfWrong : ChangeSpec := { name := "fnExactJournalOf", fn := fun _ => fun
  | [d] => { results := [.lit (.bool false)], args := [d] }
  | _ => none }
def FnExactJournalOfWrongFalsely : Prop := fnExactJournalOfRow.holds Tryz.pinned (OpenSpec.ofChange fnExactJournalOfWrong)

/-- 'laws.FnExactRecordOf': WHATEVER THE INPUT: true; the input reads as it did. -/
def fnExactRecordOfSpec : ChangeSpec := { name := "fnExactRecordOf", fn := fun _ => fun
  | [d1, d2] => { results := [.lit (.bool true)], args := [d1, d2] }
  | _ => none }
def fnExactRecordOfRow : OpenClaim := { program := "ytldhpaflmnlcaaagreatdoor", sum := "4a1db6a80d99516b335b3fe979e33dc7fbf226a37c616cbd7018abe9ce55186b", func := "loop.example/g01073/laws.FnExactRecordOf", spec := "fnExactRecordOf", inPlace := ["internal/bytealg.IndexByteString", "internal/bytealg.IndexString"], unfollowed := true, recurses := true, named := ["internal/strconv.uint64pow10", "math/bits.deBruijn32tab", "math/bits.deBruijn64tab", "strconv.ErrSyntax", "strconv.ErrRange", "internal/bytealg.MaxLen"], apart := false, laid := [("math/bits.deBruijn32tab", laid_math_bits_deBruijn32tab), ("math/bits.deBruijn64tab", laid_math_bits_deBruijn64tab), ("internal/strconv.uint64pow10", laid_internal_strconv_uint64pow10), ("strconv.ErrRange", laid_strconv_ErrRange), ("strconv.ErrSyntax", laid_strconv_ErrSyntax)] }
def FnExactRecordOfSaid : Prop := fnExactRecordOfRow.holds Tryz.pinned (OpenSpec.ofChange fnExactRecordOfSpec)

/-- ITS FALSE NEIGHBOUR: 'it returns false'. Refute it at one input. -/
def fnExactRecordOfWrong : ChangeSpec := { name := "fnExactRecordOf", fn := fun _ => fun
  | [d1, d2] => { results := [.lit (.bool false)], args := [d1, d2] }
  | _ => none }
def FnExactRecordOfWrongFalsely : Prop := fnExactRecordOfRow.holds Tryz.pinned (OpenSpec.ofChange fnExactRecordOfWrong)

/-- 'laws.FnExactParseEntry': WHATEVER THE INPUT: true; the input reads as it did. -/
def fnExactParseEntrySpec : ChangeSpec := { name := "fnExactParseEntry", fn := fun _ => fun
  | [d1, d2] => { results := [.lit (.bool true)], args := [d1, d2] }
  | _ => none }
def fnExactParseEntryRow : OpenClaim := { program := "ytldhpaflmnlcaaagreatdoor", sum := "4a1db6a80d99516b335b3fe979e33dc7fbf226a37c616cbd7018abe9ce55186b", func := "loop.example/g01073/laws.FnExactParseEntry", spec := "fnExactParseEntry", inPlace := ["internal/bytealg.IndexByteString", "internal/bytealg.IndexString"], unfollowed := true, recurses := true, named := ["internal/strconv.uint64pow10", "math/bits.deBruijn32tab", "math/bits.deBruijn64tab", "strconv.ErrSyntax", "strconv.ErrRange", "internal/bytealg.MaxLen"], apart := false, laid := [("math/bits.deBruijn32tab", laid_math_bits_deBruijn32tab), ("math/bits.deBruijn64tab", laid_math_bits_deBruijn64tab), ("internal/strconv.uint64pow10", laid_internal_strconv_uint64pow10), ("strconv.ErrRange", laid_strconv_ErrRange), ("strconv.ErrSyntax", laid_strconv_ErrSyntax)] }
def FnExactParseEntrySaid : Prop := fnExactParseEntryRow.holds Tryz.pinned (OpenSpec.ofChange fnExactParseEntrySpec)

/-- ITS FALSE NEIGHBOUR: 'it returns false'. Refute it at one input. -/
def fnExactParseEntryWrong : ChangeSpec := { name := "fnExactParseEntry", fn := fun _ => fun
  | [d1, d2] => { results := [.lit (.bool false)], args := [d1, d2] }
  | _ => none }
def FnExactParseEntryWrongFalsely : Prop := fnExactParseEntryRow.holds Tryz.pinned (OpenSpec.ofChange fnExactParseEntryWrong)

/-- 'laws.FnExactCountAcknowledged': WHATEVER THE INPUT: true; the input reads as it did. -/
def fnExactCountAcknowledgedSpec : ChangeSpec := { name := "fnExactCountAcknowledged", fn := fun _ => fun
  | [d] => { results := [.lit (.bool true)], args := [d] }
  | _ => none }
def fnExactCountAcknowledgedRow : OpenClaim := { program := "ytldhpaflmnlcaaagreatdoor", sum := "4a1db6a80d99516b335b3fe979e33dc7fbf226a37c616cbd7018abe9ce55186b", func := "loop.example/g01073/laws.FnExactCountAcknowledged", spec := "fnExactCountAcknowledged", inPlace := ["internal/bytealg.IndexByteString", "internal/bytealg.IndexString"], unfollowed := true, recurses := true, named := ["internal/bytealg.MaxLen", "internal/strconv.uint64pow10", "math/bits.deBruijn32tab", "math/bits.deBruijn64tab", "strconv.ErrSyntax", "strconv.ErrRange"], apart := false, laid := [("math/bits.deBruijn32tab", laid_math_bits_deBruijn32tab), ("math/bits.deBruijn64tab", laid_math_bits_deBruijn64tab), ("internal/strconv.uint64pow10", laid_internal_strconv_uint64pow10), ("strconv.ErrRange", laid_strconv_ErrRange), ("strconv.ErrSyntax", laid_strconv_ErrSyntax)] }
def FnExactCountAcknowledgedSaid : Prop := fnExactCountAcknowledgedRow.holds Tryz.pinned (OpenSpec.ofChange fnExactCountAcknowledgedSpec)

/-- ITS FALSE NEIGHBOUR: 'it returns false'. Refute it at one input. -/
def fnExactCountAcknowledgedWrong : ChangeSpec := { name := "fnExactCountAcknowledged", fn := fun _ => fun
  | [d] => { results := [.lit (.bool false)], args := [d] }
  | _ => none }
def FnExactCountAcknowledgedWrongFalsely : Prop := fnExactCountAcknowledgedRow.holds Tryz.pinned (OpenSpec.ofChange fnExactCountAcknowledgedWrong)

/-- 'laws.FnExactCompactJournal': WHATEVER THE INPUT: true; the input reads as it did. -/
def fnExactCompactJournalSpec : ChangeSpec := { name := "fnExactCompactJournal", fn := fun _ => fun
  | [d] => { results := [.lit (.bool true)], args := [d] }
  | _ => none }
def fnExactCompactJournalRow : OpenClaim := { program := "ytldhpaflmnlcaaagreatdoor", sum := "4a1db6a80d99516b335b3fe979e33dc7fbf226a37c616cbd7018abe9ce55186b", func := "loop.example/g01073/laws.FnExactCompactJournal", spec := "fnExactCompactJournal", inPlace := ["internal/bytealg.IndexByteString", "internal/bytealg.IndexString"], unfollowed := true, recurses := true, named := ["internal/bytealg.MaxLen", "internal/strconv.uint64pow10", "math/bits.deBruijn32tab", "math/bits.deBruijn64tab", "strconv.ErrSyntax", "strconv.ErrRange"], apart := false, laid := [("math/bits.deBruijn32tab", laid_math_bits_deBruijn32tab), ("math/bits.deBruijn64tab", laid_math_bits_deBruijn64tab), ("internal/strconv.uint64pow10", laid_internal_strconv_uint64pow10), ("strconv.ErrRange", laid_strconv_ErrRange), ("strconv.ErrSyntax", laid_strconv_ErrSyntax)] }
def FnExactCompactJournalSaid : Prop := fnExactCompactJournalRow.holds Tryz.pinned (OpenSpec.ofChange fnExactCompactJournalSpec)

/-- ITS FALSE NEIGHBOUR: 'it returns false'. Refute it at one input. -/
def fnExactCompactJournalWrong : ChangeSpec := { name := "fnExactCompactJournal", fn := fun _ => fun
  | [d] => { results := [.lit (.bool false)], args := [d] }
  | _ => none }
def FnExactCompactJournalWrongFalsely : Prop := fnExactCompactJournalRow.holds Tryz.pinned (OpenSpec.ofChange fnExactCompactJournalWrong)

/-- 'laws.FnExactRecoverLibrary': WHATEVER THE INPUT: true; the input reads as it did. -/
def fnExactRecoverLibrarySpec : ChangeSpec := { name := "fnExactRecoverLibrary", fn := fun _ => fun
  | [d] => { results := [.lit (.bool true)], args := [d] }
  | _ => none }
def fnExactRecoverLibraryRow : OpenClaim := { program := "ytldhpaflmnlcaaagreatdoor", sum := "4a1db6a80d99516b335b3fe979e33dc7fbf226a37c616cbd7018abe9ce55186b", func := "loop.example/g01073/laws.FnExactRecoverLibrary", spec := "fnExactRecoverLibrary", inPlace := ["internal/bytealg.IndexByteString", "internal/bytealg.IndexString"], unfollowed := true, recurses := true, named := ["internal/bytealg.MaxLen", "internal/strconv.uint64pow10", "math/bits.deBruijn32tab", "math/bits.deBruijn64tab", "strconv.ErrSyntax", "strconv.ErrRange"], apart := false, laid := [("math/bits.deBruijn32tab", laid_math_bits_deBruijn32tab), ("math/bits.deBruijn64tab", laid_math_bits_deBruijn64tab), ("internal/strconv.uint64pow10", laid_internal_strconv_uint64pow10), ("strconv.ErrRange", laid_strconv_ErrRange), ("strconv.ErrSyntax", laid_strconv_ErrSyntax)] }
def FnExactRecoverLibrarySaid : Prop := fnExactRecoverLibraryRow.holds Tryz.pinned (OpenSpec.ofChange fnExactRecoverLibrarySpec)

/-- ITS FALSE NEIGHBOUR: 'it returns false'. Refute it at one input. -/
def fnExactRecoverLibraryWrong : ChangeSpec := { name := "fnExactRecoverLibrary", fn := fun _ => fun
  | [d] => { results := [.lit (.bool false)], args := [d] }
  | _ => none }
def FnExactRecoverLibraryWrongFalsely : Prop := fnExactRecoverLibraryRow.holds Tryz.pinned (OpenSpec.ofChange fnExactRecoverLibraryWrong)

/-- 'laws.FnExactRecoverDisk': WHATEVER THE INPUT: true; the input reads as it did. -/
def fnExactRecoverDiskSpec : ChangeSpec := { name := "fnExactRecoverDisk", fn := fun _ => fun
  | [d] => { results := [.lit (.bool true)], args := [d] }
  | _ => none }
def fnExactRecoverDiskRow : OpenClaim := { program := "ytldhpaflmnlcaaagreatdoor", sum := "4a1db6a80d99516b335b3fe979e33dc7fbf226a37c616cbd7018abe9ce55186b", func := "loop.example/g01073/laws.FnExactRecoverDisk", spec := "fnExactRecoverDisk", inPlace := ["internal/bytealg.IndexByteString", "internal/bytealg.IndexString"], unfollowed := true, recurses := true, named := ["internal/bytealg.MaxLen", "internal/strconv.uint64pow10", "math/bits.deBruijn32tab", "math/bits.deBruijn64tab", "strconv.ErrSyntax", "strconv.ErrRange"], apart := false, laid := [("math/bits.deBruijn32tab", laid_math_bits_deBruijn32tab), ("math/bits.deBruijn64tab", laid_math_bits_deBruijn64tab), ("internal/strconv.uint64pow10", laid_internal_strconv_uint64pow10), ("strconv.ErrRange", laid_strconv_ErrRange), ("strconv.ErrSyntax", laid_strconv_ErrSyntax)] }
def FnExactRecoverDiskSaid : Prop := fnExactRecoverDiskRow.holds Tryz.pinned (OpenSpec.ofChange fnExactRecoverDiskSpec)

/-- ITS FALSE NEIGHBOUR: 'it returns false'. Refute it at one input. -/
def fnExactRecoverDiskWrong : ChangeSpec := { name := "fnExactRecoverDisk", fn := fun _ => fun
  | [d] => { results := [.lit (.bool false)], args := [d] }
  | _ => none }
def FnExactRecoverDiskWrongFalsely : Prop := fnExactRecoverDiskRow.holds Tryz.pinned (OpenSpec.ofChange fnExactRecoverDiskWrong)

/-- 'laws.FnExactWriteEntry': WHATEVER THE INPUT: true; the input reads as it did. -/
def fnExactWriteEntrySpec : ChangeSpec := { name := "fnExactWriteEntry", fn := fun _ => fun
  | [d1, d2] => { results := [.lit (.bool true)], args := [d1, d2] }
  | _ => none }
def fnExactWriteEntryRow : OpenClaim := { program := "ytldhpaflmnlcaaagreatdoor", sum := "4a1db6a80d99516b335b3fe979e33dc7fbf226a37c616cbd7018abe9ce55186b", func := "loop.example/g01073/laws.FnExactWriteEntry", spec := "fnExactWriteEntry", inPlace := ["internal/bytealg.IndexByteString", "internal/bytealg.IndexString"], unfollowed := true, recurses := true, named := ["internal/bytealg.MaxLen", "internal/strconv.uint64pow10", "math/bits.deBruijn32tab", "math/bits.deBruijn64tab", "strconv.ErrSyntax", "strconv.ErrRange"], apart := false, laid := [("math/bits.deBruijn32tab", laid_math_bits_deBruijn32tab), ("math/bits.deBruijn64tab", laid_math_bits_deBruijn64tab), ("internal/strconv.uint64pow10", laid_internal_strconv_uint64pow10), ("strconv.ErrRange", laid_strconv_ErrRange), ("strconv.ErrSyntax", laid_strconv_ErrSyntax)] }
def FnExactWriteEntrySaid : Prop := fnExactWriteEntryRow.holds Tryz.pinned (OpenSpec.ofChange fnExactWriteEntrySpec)

/-- ITS FALSE NEIGHBOUR: 'it returns false'. Refute it at one input. -/
def fnExactWriteEntryWrong : ChangeSpec := { name := "fnExactWriteEntry", fn := fun _ => fun
  | [d1, d2] => { results := [.lit (.bool false)], args := [d1, d2] }
  | _ => none }
def FnExactWriteEntryWrongFalsely : Prop := fnExactWriteEntryRow.holds Tryz.pinned (OpenSpec.ofChange fnExactWriteEntryWrong)

/- THE SECOND FORM. 'bulk': how many values and letters a reading holds, each counted each time it is reached (what is shared counts as often as it is met; a slice's spare places count too). A statement '..UptoSaid' is the law's where the arguments, and the package variables that the reading takes, are together of bulk at most 1048576: NARROWER than '..Said'. Prove '..Said' where nothing that the law and all that it calls make is longer than what came in: it says more and counts as full. Else prove '..UptoSaid'. A law counts once. -/
mutual
def uptoBulk {H : Type} : DataW H → Nat
  | .lit (.string bytes) => bytes.length + 1
  | .lit _ => 1
  | .nil => 1
  | .ptr d => uptoBulk d + 1
  | .slice elems spare => uptoBulkAll elems + uptoBulkAll spare + 1
  | .agg parts => uptoBulkAll parts + 1
  | .iface _ d => uptoBulk d + 1
  | .map entries => uptoBulkEntries entries + 1
  | .held _ => 1
def uptoBulkAll {H : Type} : List (DataW H) → Nat
  | [] => 0
  | d :: r => uptoBulk d + uptoBulkAll r
def uptoBulkEntries {H : Type} : List (Lit × DataW H) → Nat
  | [] => 0
  | x :: r => uptoBulkEntry x + uptoBulkEntries r
def uptoBulkEntry {H : Type} : Lit × DataW H → Nat
  | (.string bytes, d) => bytes.length + uptoBulk d + 1
  | (_, d) => uptoBulk d + 1
 end
def uptoSmall : (H : Type) → List (DataW H) → Bool := fun _ ds => decide (uptoBulkAll ds ≤ 1048576)
def OpenSpec.upto (s : _root_.Go.ChangeSpec) : _root_.Go.OpenSpec := { _root_.Go.OpenSpec.ofChange s with cond := some uptoSmall }

/-- 'laws.FnExactParseDef', WHERE WHAT IT READS IS OF BULK AT MOST 1048576: true; the input reads as it did. -/
def fnExactParseDefUptoRow : OpenClaim := { program := "ytldhpaflmnlcaaagreatdoor", sum := "4a1db6a80d99516b335b3fe979e33dc7fbf226a37c616cbd7018abe9ce55186b", func := "loop.example/g01073/laws.FnExactParseDef", spec := "fnExactParseDef", inPlace := ["internal/bytealg.IndexByteString"], unfollowed := true, recurses := true, named := ["strconv.ErrSyntax", "strconv.ErrRange", "internal/strconv.uint64pow10", "math/bits.deBruijn32tab", "math/bits.deBruijn64tab"], apart := false, laid := [("math/bits.deBruijn32tab", laid_math_bits_deBruijn32tab), ("math/bits.deBruijn64tab", laid_math_bits_deBruijn64tab), ("internal/strconv.uint64pow10", laid_internal_strconv_uint64pow10), ("strconv.ErrRange", laid_strconv_ErrRange), ("strconv.ErrSyntax", laid_strconv_ErrSyntax)], narrowed := true }
def FnExactParseDefUptoSaid : Prop := fnExactParseDefUptoRow.holds Tryz.pinned (OpenSpec.upto fnExactParseDefSpec)

/-- 'laws.FnExactParseLibrary', WHERE WHAT IT READS IS OF BULK AT MOST 1048576: true; the input reads as it did. -/
def fnExactParseLibraryUptoRow : OpenClaim := { program := "ytldhpaflmnlcaaagreatdoor", sum := "4a1db6a80d99516b335b3fe979e33dc7fbf226a37c616cbd7018abe9ce55186b", func := "loop.example/g01073/laws.FnExactParseLibrary", spec := "fnExactParseLibrary", inPlace := ["internal/bytealg.IndexByteString", "internal/bytealg.IndexString"], unfollowed := true, recurses := true, named := ["internal/bytealg.MaxLen", "strconv.ErrSyntax", "strconv.ErrRange", "internal/strconv.uint64pow10", "math/bits.deBruijn32tab", "math/bits.deBruijn64tab"], apart := false, laid := [("math/bits.deBruijn32tab", laid_math_bits_deBruijn32tab), ("math/bits.deBruijn64tab", laid_math_bits_deBruijn64tab), ("internal/strconv.uint64pow10", laid_internal_strconv_uint64pow10), ("strconv.ErrRange", laid_strconv_ErrRange), ("strconv.ErrSyntax", laid_strconv_ErrSyntax)], narrowed := true }
def FnExactParseLibraryUptoSaid : Prop := fnExactParseLibraryUptoRow.holds Tryz.pinned (OpenSpec.upto fnExactParseLibrarySpec)

/-- 'laws.FnExactParseTerm', WHERE WHAT IT READS IS OF BULK AT MOST 1048576: true; the input reads as it did. -/
def fnExactParseTermUptoRow : OpenClaim := { program := "ytldhpaflmnlcaaagreatdoor", sum := "4a1db6a80d99516b335b3fe979e33dc7fbf226a37c616cbd7018abe9ce55186b", func := "loop.example/g01073/laws.FnExactParseTerm", spec := "fnExactParseTerm", inPlace := ["internal/bytealg.IndexByteString", "internal/reflectlite.TypeOf", "internal/reflectlite.ValueOf", "(internal/reflectlite.Value).Type", "(internal/reflectlite.Value).IsNil", "(internal/reflectlite.Value).Elem", "(internal/reflectlite.Value).Set"], unfollowed := true, recurses := true, named := ["strconv.ErrSyntax", "strconv.ErrRange", "internal/strconv.uint64pow10", "math/bits.deBruijn32tab", "math/bits.deBruijn64tab", "loop.example/g01073/impl.errFault", "errors.errorType"], ifaces := true, apart := false, laid := [("math/bits.deBruijn32tab", laid_math_bits_deBruijn32tab), ("math/bits.deBruijn64tab", laid_math_bits_deBruijn64tab), ("internal/strconv.uint64pow10", laid_internal_strconv_uint64pow10), ("errors.errorType", laid_errors_errorType), ("strconv.ErrRange", laid_strconv_ErrRange), ("strconv.ErrSyntax", laid_strconv_ErrSyntax), ("loop.example/g01073/impl.errFault", laid_loop_example_g01073_impl_errFault)], narrowed := true }
def FnExactParseTermUptoSaid : Prop := fnExactParseTermUptoRow.holds Tryz.pinned (OpenSpec.upto fnExactParseTermSpec)

/-- 'laws.FnExactEntryText', WHERE WHAT IT READS IS OF BULK AT MOST 1048576: true; the input reads as it did. -/
def fnExactEntryTextUptoRow : OpenClaim := { program := "ytldhpaflmnlcaaagreatdoor", sum := "4a1db6a80d99516b335b3fe979e33dc7fbf226a37c616cbd7018abe9ce55186b", func := "loop.example/g01073/laws.FnExactEntryText", spec := "fnExactEntryText", inPlace := ["internal/bytealg.IndexByteString", "internal/bytealg.IndexString"], unfollowed := true, recurses := true, named := ["internal/strconv.uint64pow10", "math/bits.deBruijn32tab", "math/bits.deBruijn64tab", "strconv.ErrSyntax", "strconv.ErrRange", "internal/bytealg.MaxLen"], apart := false, laid := [("math/bits.deBruijn32tab", laid_math_bits_deBruijn32tab), ("math/bits.deBruijn64tab", laid_math_bits_deBruijn64tab), ("internal/strconv.uint64pow10", laid_internal_strconv_uint64pow10), ("strconv.ErrRange", laid_strconv_ErrRange), ("strconv.ErrSyntax", laid_strconv_ErrSyntax)], narrowed := true }
def FnExactEntryTextUptoSaid : Prop := fnExactEntryTextUptoRow.holds Tryz.pinned (OpenSpec.upto fnExactEntryTextSpec)

/-- 'laws.FnExactApplyEntry', WHERE WHAT IT READS IS OF BULK AT MOST 1048576: true; the input reads as it did. -/
def fnExactApplyEntryUptoRow : OpenClaim := { program := "ytldhpaflmnlcaaagreatdoor", sum := "4a1db6a80d99516b335b3fe979e33dc7fbf226a37c616cbd7018abe9ce55186b", func := "loop.example/g01073/laws.FnExactApplyEntry", spec := "fnExactApplyEntry", inPlace := ["internal/bytealg.IndexByteString", "internal/bytealg.IndexString"], unfollowed := true, recurses := true, named := ["internal/strconv.uint64pow10", "math/bits.deBruijn32tab", "math/bits.deBruijn64tab", "strconv.ErrSyntax", "strconv.ErrRange", "internal/bytealg.MaxLen"], apart := false, laid := [("math/bits.deBruijn32tab", laid_math_bits_deBruijn32tab), ("math/bits.deBruijn64tab", laid_math_bits_deBruijn64tab), ("internal/strconv.uint64pow10", laid_internal_strconv_uint64pow10), ("strconv.ErrRange", laid_strconv_ErrRange), ("strconv.ErrSyntax", laid_strconv_ErrSyntax)], narrowed := true }
def FnExactApplyEntryUptoSaid : Prop := fnExactApplyEntryUptoRow.holds Tryz.pinned (OpenSpec.upto fnExactApplyEntrySpec)

/-- 'laws.FnExactJournalOf', WHERE WHAT IT READS IS OF BULK AT MOST 1048576: true; the input reads as it did. -/
def fnExactJournalOfUptoRow : OpenClaim := { program := "ytldhpaflmnlcaaagreatdoor", sum := "4a1db6a80d99516b335b3fe979e33dc7fbf226a37c616cbd7018abe9ce55186b", func := "loop.example/g01073/laws.FnExactJournalOf", spec := "fnExactJournalOf", inPlace := ["internal/bytealg.IndexByteString", "internal/bytealg.IndexString"], unfollowed := true, recurses := true, named := ["internal/strconv.uint64pow10", "math/bits.deBruijn32tab", "math/bits.deBruijn64tab", "strconv.ErrSyntax", "strconv.ErrRange", "internal/bytealg.MaxLen"], apart := false, laid := [("math/bits.deBruijn32tab", laid_math_bits_deBruijn32tab), ("math/bits.deBruijn64tab", laid_math_bits_deBruijn64tab), ("internal/strconv.uint64pow10", laid_internal_strconv_uint64pow10), ("strconv.ErrRange", laid_strconv_ErrRange), ("strconv.ErrSyntax", laid_strconv_ErrSyntax)], narrowed := true }
def FnExactJournalOfUptoSaid : Prop := fnExactJournalOfUptoRow.holds Tryz.pinned (OpenSpec.upto fnExactJournalOfSpec)

/-- 'laws.FnExactRecordOf', WHERE WHAT IT READS IS OF BULK AT MOST 1048576: true; the input reads as it did. -/
def fnExactRecordOfUptoRow : OpenClaim := { program := "ytldhpaflmnlcaaagreatdoor", sum := "4a1db6a80d99516b335b3fe979e33dc7fbf226a37c616cbd7018abe9ce55186b", func := "loop.example/g01073/laws.FnExactRecordOf", spec := "fnExactRecordOf", inPlace := ["internal/bytealg.IndexByteString", "internal/bytealg.IndexString"], unfollowed := true, recurses := true, named := ["internal/strconv.uint64pow10", "math/bits.deBruijn32tab", "math/bits.deBruijn64tab", "strconv.ErrSyntax", "strconv.ErrRange", "internal/bytealg.MaxLen"], apart := false, laid := [("math/bits.deBruijn32tab", laid_math_bits_deBruijn32tab), ("math/bits.deBruijn64tab", laid_math_bits_deBruijn64tab), ("internal/strconv.uint64pow10", laid_internal_strconv_uint64pow10), ("strconv.ErrRange", laid_strconv_ErrRange), ("strconv.ErrSyntax", laid_strconv_ErrSyntax)], narrowed := true }
def FnExactRecordOfUptoSaid : Prop := fnExactRecordOfUptoRow.holds Tryz.pinned (OpenSpec.upto fnExactRecordOfSpec)

/-- 'laws.FnExactParseEntry', WHERE WHAT IT READS IS OF BULK AT MOST 1048576: true; the input reads as it did. -/
def fnExactParseEntryUptoRow : OpenClaim := { program := "ytldhpaflmnlcaaagreatdoor", sum := "4a1db6a80d99516b335b3fe979e33dc7fbf226a37c616cbd7018abe9ce55186b", func := "loop.example/g01073/laws.FnExactParseEntry", spec := "fnExactParseEntry", inPlace := ["internal/bytealg.IndexByteString", "internal/bytealg.IndexString"], unfollowed := true, recurses := true, named := ["internal/strconv.uint64pow10", "math/bits.deBruijn32tab", "math/bits.deBruijn64tab", "strconv.ErrSyntax", "strconv.ErrRange", "internal/bytealg.MaxLen"], apart := false, laid := [("math/bits.deBruijn32tab", laid_math_bits_deBruijn32tab), ("math/bits.deBruijn64tab", laid_math_bits_deBruijn64tab), ("internal/strconv.uint64pow10", laid_internal_strconv_uint64pow10), ("strconv.ErrRange", laid_strconv_ErrRange), ("strconv.ErrSyntax", laid_strconv_ErrSyntax)], narrowed := true }
def FnExactParseEntryUptoSaid : Prop := fnExactParseEntryUptoRow.holds Tryz.pinned (OpenSpec.upto fnExactParseEntrySpec)

/-- 'laws.FnExactCountAcknowledged', WHERE WHAT IT READS IS OF BULK AT MOST 1048576: true; the input reads as it did. -/
def fnExactCountAcknowledgedUptoRow : OpenClaim := { program := "ytldhpaflmnlcaaagreatdoor", sum := "4a1db6a80d99516b335b3fe979e33dc7fbf226a37c616cbd7018abe9ce55186b", func := "loop.example/g01073/laws.FnExactCountAcknowledged", spec := "fnExactCountAcknowledged", inPlace := ["internal/bytealg.IndexByteString", "internal/bytealg.IndexString"], unfollowed := true, recurses := true, named := ["internal/bytealg.MaxLen", "internal/strconv.uint64pow10", "math/bits.deBruijn32tab", "math/bits.deBruijn64tab", "strconv.ErrSyntax", "strconv.ErrRange"], apart := false, laid := [("math/bits.deBruijn32tab", laid_math_bits_deBruijn32tab), ("math/bits.deBruijn64tab", laid_math_bits_deBruijn64tab), ("internal/strconv.uint64pow10", laid_internal_strconv_uint64pow10), ("strconv.ErrRange", laid_strconv_ErrRange), ("strconv.ErrSyntax", laid_strconv_ErrSyntax)], narrowed := true }
def FnExactCountAcknowledgedUptoSaid : Prop := fnExactCountAcknowledgedUptoRow.holds Tryz.pinned (OpenSpec.upto fnExactCountAcknowledgedSpec)

/-- 'laws.FnExactCompactJournal', WHERE WHAT IT READS IS OF BULK AT MOST 1048576: true; the input reads as it did. -/
def fnExactCompactJournalUptoRow : OpenClaim := { program := "ytldhpaflmnlcaaagreatdoor", sum := "4a1db6a80d99516b335b3fe979e33dc7fbf226a37c616cbd7018abe9ce55186b", func := "loop.example/g01073/laws.FnExactCompactJournal", spec := "fnExactCompactJournal", inPlace := ["internal/bytealg.IndexByteString", "internal/bytealg.IndexString"], unfollowed := true, recurses := true, named := ["internal/bytealg.MaxLen", "internal/strconv.uint64pow10", "math/bits.deBruijn32tab", "math/bits.deBruijn64tab", "strconv.ErrSyntax", "strconv.ErrRange"], apart := false, laid := [("math/bits.deBruijn32tab", laid_math_bits_deBruijn32tab), ("math/bits.deBruijn64tab", laid_math_bits_deBruijn64tab), ("internal/strconv.uint64pow10", laid_internal_strconv_uint64pow10), ("strconv.ErrRange", laid_strconv_ErrRange), ("strconv.ErrSyntax", laid_strconv_ErrSyntax)], narrowed := true }
def FnExactCompactJournalUptoSaid : Prop := fnExactCompactJournalUptoRow.holds Tryz.pinned (OpenSpec.upto fnExactCompactJournalSpec)

/-- 'laws.FnExactRecoverLibrary', WHERE WHAT IT READS IS OF BULK AT MOST 1048576: true; the input reads as it did. -/
def fnExactRecoverLibraryUptoRow : OpenClaim := { program := "ytldhpaflmnlcaaagreatdoor", sum := "4a1db6a80d99516b335b3fe979e33dc7fbf226a37c616cbd7018abe9ce55186b", func := "loop.example/g01073/laws.FnExactRecoverLibrary", spec := "fnExactRecoverLibrary", inPlace := ["internal/bytealg.IndexByteString", "internal/bytealg.IndexString"], unfollowed := true, recurses := true, named := ["internal/bytealg.MaxLen", "internal/strconv.uint64pow10", "math/bits.deBruijn32tab", "math/bits.deBruijn64tab", "strconv.ErrSyntax", "strconv.ErrRange"], apart := false, laid := [("math/bits.deBruijn32tab", laid_math_bits_deBruijn32tab), ("math/bits.deBruijn64tab", laid_math_bits_deBruijn64tab), ("internal/strconv.uint64pow10", laid_internal_strconv_uint64pow10), ("strconv.ErrRange", laid_strconv_ErrRange), ("strconv.ErrSyntax", laid_strconv_ErrSyntax)], narrowed := true }
def FnExactRecoverLibraryUptoSaid : Prop := fnExactRecoverLibraryUptoRow.holds Tryz.pinned (OpenSpec.upto fnExactRecoverLibrarySpec)

/-- 'laws.FnExactRecoverDisk', WHERE WHAT IT READS IS OF BULK AT MOST 1048576: true; the input reads as it did. -/
def fnExactRecoverDiskUptoRow : OpenClaim := { program := "ytldhpaflmnlcaaagreatdoor", sum := "4a1db6a80d99516b335b3fe979e33dc7fbf226a37c616cbd7018abe9ce55186b", func := "loop.example/g01073/laws.FnExactRecoverDisk", spec := "fnExactRecoverDisk", inPlace := ["internal/bytealg.IndexByteString", "internal/bytealg.IndexString"], unfollowed := true, recurses := true, named := ["internal/bytealg.MaxLen", "internal/strconv.uint64pow10", "math/bits.deBruijn32tab", "math/bits.deBruijn64tab", "strconv.ErrSyntax", "strconv.ErrRange"], apart := false, laid := [("math/bits.deBruijn32tab", laid_math_bits_deBruijn32tab), ("math/bits.deBruijn64tab", laid_math_bits_deBruijn64tab), ("internal/strconv.uint64pow10", laid_internal_strconv_uint64pow10), ("strconv.ErrRange", laid_strconv_ErrRange), ("strconv.ErrSyntax", laid_strconv_ErrSyntax)], narrowed := true }
def FnExactRecoverDiskUptoSaid : Prop := fnExactRecoverDiskUptoRow.holds Tryz.pinned (OpenSpec.upto fnExactRecoverDiskSpec)

/-- 'laws.FnExactWriteEntry', WHERE WHAT IT READS IS OF BULK AT MOST 1048576: true; the input reads as it did. -/
def fnExactWriteEntryUptoRow : OpenClaim := { program := "ytldhpaflmnlcaaagreatdoor", sum := "4a1db6a80d99516b335b3fe979e33dc7fbf226a37c616cbd7018abe9ce55186b", func := "loop.example/g01073/laws.FnExactWriteEntry", spec := "fnExactWriteEntry", inPlace := ["internal/bytealg.IndexByteString", "internal/bytealg.IndexString"], unfollowed := true, recurses := true, named := ["internal/bytealg.MaxLen", "internal/strconv.uint64pow10", "math/bits.deBruijn32tab", "math/bits.deBruijn64tab", "strconv.ErrSyntax", "strconv.ErrRange"], apart := false, laid := [("math/bits.deBruijn32tab", laid_math_bits_deBruijn32tab), ("math/bits.deBruijn64tab", laid_math_bits_deBruijn64tab), ("internal/strconv.uint64pow10", laid_internal_strconv_uint64pow10), ("strconv.ErrRange", laid_strconv_ErrRange), ("strconv.ErrSyntax", laid_strconv_ErrSyntax)], narrowed := true }
def FnExactWriteEntryUptoSaid : Prop := fnExactWriteEntryUptoRow.holds Tryz.pinned (OpenSpec.upto fnExactWriteEntrySpec)

end Rows
end Go.Proofs.YtldhpaflmnlcaaaGreatDoor
