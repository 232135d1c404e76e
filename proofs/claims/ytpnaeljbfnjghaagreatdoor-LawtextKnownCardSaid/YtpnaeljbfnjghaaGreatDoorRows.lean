/-
  NARROWER THAN 'FOR EVERY INPUT', by the rows' own cells (each row's printed sentence says how): LawtextBack: loops, laid · LawtextReads: laid · LawtextLists: loops, laid · LawtextNil: loops, laid · LawtextLines: loops, laid · TopWritten: loops, laid · LawtextKnown: laid · LawtextKeeps: loops, laid · LawtextTurns: loops, laid.
  DERIVED. THE GIVEN ROWS OF THIS SEAT. 9 by the template 'for every input the law returns true; each argument reads behind the call as it read before'; 0 by the template 'total and deterministic' (their statements: YtpnaeljbfnjghaaGreatDoorTotals.lean).
  GIVEN WITH THE SEED: the statements are not yours to turn. If you find one false, say at which input.
  Laid BY PROGRAM, IN A SANDBOX (cutbox-rows.mjs): the forced cells as the released guide's own fill.sh prints them over the translation f7c677b80f1291b8… (all of the seat's roots in one cut). By AI agents, Wed Nov 11 2026. No macro, syntax, notation, axiom, sorry.
-/
import Derived.Test.YtpnaeljbfnjghaaGreatDoorChecked
import GoSem.PinnedTables
import GoSem.Claim
import GoSem.ClaimJoined
import GoSem.ClaimMapViews
import Derived.JoinedTies
import Derived.KernelRfl
namespace Go.Proofs.YtpnaeljbfnjghaaGreatDoor
/- THE CELL 'sum', in the pinned program and in every row, IS THE sha256 OF THE DUMP (.gsa) THAT YtpnaeljbfnjghaaGreatDoorProg.lean LOADS. Nothing in Lean hashes anything: it is a label: what it is worth is what the hold of that sum in a sandbox is worth. -/
noncomputable def Tryz.pinned : Pinned := { name := "ytpnaeljbfnjghaagreatdoor", sum := "f7c677b80f1291b8a4f1bc33a78b6108bae8a3efa6b959e54bf9ee5fa3159563", checked := Tryz.checked }
namespace Rows
def none {H : Type} : Left H := { results := [], args := [] }

/- WHAT THE LISTED PACKAGE-LEVEL VARIABLES READ AS WHEN THE CALL BEGINS. Each datum BY PROGRAM (the guide's laid-datum.mjs) off the statement by which the dump's own 'gosem.cut.vars' lays the variable. In a bare row this is a premise. The card (YtpnaeljbfnjghaaGreatDoorCards.lean) ties it to the program's text. -/
def laid_math_bits_deBruijn32tab {H : Type} : DataW H := .agg [.lit (.int .u8 0), .lit (.int .u8 1), .lit (.int .u8 28), .lit (.int .u8 2), .lit (.int .u8 29), .lit (.int .u8 14), .lit (.int .u8 24), .lit (.int .u8 3), .lit (.int .u8 30), .lit (.int .u8 22), .lit (.int .u8 20), .lit (.int .u8 15), .lit (.int .u8 25), .lit (.int .u8 17), .lit (.int .u8 4), .lit (.int .u8 8), .lit (.int .u8 31), .lit (.int .u8 27), .lit (.int .u8 13), .lit (.int .u8 23), .lit (.int .u8 21), .lit (.int .u8 19), .lit (.int .u8 16), .lit (.int .u8 7), .lit (.int .u8 26), .lit (.int .u8 12), .lit (.int .u8 18), .lit (.int .u8 6), .lit (.int .u8 11), .lit (.int .u8 5), .lit (.int .u8 10), .lit (.int .u8 9)]
def laid_math_bits_deBruijn64tab {H : Type} : DataW H := .agg [.lit (.int .u8 0), .lit (.int .u8 1), .lit (.int .u8 56), .lit (.int .u8 2), .lit (.int .u8 57), .lit (.int .u8 49), .lit (.int .u8 28), .lit (.int .u8 3), .lit (.int .u8 61), .lit (.int .u8 58), .lit (.int .u8 42), .lit (.int .u8 50), .lit (.int .u8 38), .lit (.int .u8 29), .lit (.int .u8 17), .lit (.int .u8 4), .lit (.int .u8 62), .lit (.int .u8 47), .lit (.int .u8 59), .lit (.int .u8 36), .lit (.int .u8 45), .lit (.int .u8 43), .lit (.int .u8 51), .lit (.int .u8 22), .lit (.int .u8 53), .lit (.int .u8 39), .lit (.int .u8 33), .lit (.int .u8 30), .lit (.int .u8 24), .lit (.int .u8 18), .lit (.int .u8 12), .lit (.int .u8 5), .lit (.int .u8 63), .lit (.int .u8 55), .lit (.int .u8 48), .lit (.int .u8 27), .lit (.int .u8 60), .lit (.int .u8 41), .lit (.int .u8 37), .lit (.int .u8 16), .lit (.int .u8 46), .lit (.int .u8 35), .lit (.int .u8 44), .lit (.int .u8 21), .lit (.int .u8 52), .lit (.int .u8 32), .lit (.int .u8 23), .lit (.int .u8 11), .lit (.int .u8 54), .lit (.int .u8 26), .lit (.int .u8 40), .lit (.int .u8 15), .lit (.int .u8 34), .lit (.int .u8 20), .lit (.int .u8 31), .lit (.int .u8 10), .lit (.int .u8 25), .lit (.int .u8 14), .lit (.int .u8 19), .lit (.int .u8 9), .lit (.int .u8 13), .lit (.int .u8 8), .lit (.int .u8 7), .lit (.int .u8 6)]
def laid_internal_strconv_uint64pow10 {H : Type} : DataW H := .agg [.lit (.int .u64 1), .lit (.int .u64 10), .lit (.int .u64 100), .lit (.int .u64 1000), .lit (.int .u64 10000), .lit (.int .u64 100000), .lit (.int .u64 1000000), .lit (.int .u64 10000000), .lit (.int .u64 100000000), .lit (.int .u64 1000000000), .lit (.int .u64 10000000000), .lit (.int .u64 100000000000), .lit (.int .u64 1000000000000), .lit (.int .u64 10000000000000), .lit (.int .u64 100000000000000), .lit (.int .u64 1000000000000000), .lit (.int .u64 10000000000000000), .lit (.int .u64 100000000000000000), .lit (.int .u64 1000000000000000000), .lit (.int .u64 10000000000000000000)]
def laid_unicode_utf8_acceptRanges {H : Type} : DataW H := .agg [.agg [.lit (.int .u8 128), .lit (.int .u8 191)], .agg [.lit (.int .u8 160), .lit (.int .u8 191)], .agg [.lit (.int .u8 128), .lit (.int .u8 159)], .agg [.lit (.int .u8 144), .lit (.int .u8 191)], .agg [.lit (.int .u8 128), .lit (.int .u8 143)], .agg [.lit (.int .u8 0), .lit (.int .u8 0)], .agg [.lit (.int .u8 0), .lit (.int .u8 0)], .agg [.lit (.int .u8 0), .lit (.int .u8 0)], .agg [.lit (.int .u8 0), .lit (.int .u8 0)], .agg [.lit (.int .u8 0), .lit (.int .u8 0)], .agg [.lit (.int .u8 0), .lit (.int .u8 0)], .agg [.lit (.int .u8 0), .lit (.int .u8 0)], .agg [.lit (.int .u8 0), .lit (.int .u8 0)], .agg [.lit (.int .u8 0), .lit (.int .u8 0)], .agg [.lit (.int .u8 0), .lit (.int .u8 0)], .agg [.lit (.int .u8 0), .lit (.int .u8 0)]]
def laid_strconv_ErrRange {H : Type} : DataW H := .iface "*errors.errorString" (.ptr (.agg [.lit (.string [118, 97, 108, 117, 101, 32, 111, 117, 116, 32, 111, 102, 32, 114, 97, 110, 103, 101])]))
def laid_strconv_ErrSyntax {H : Type} : DataW H := .iface "*errors.errorString" (.ptr (.agg [.lit (.string [105, 110, 118, 97, 108, 105, 100, 32, 115, 121, 110, 116, 97, 120])]))
def laid_ablaut_lawtext_signs {H : Type} : DataW H := .agg [.agg [.lit (.string [42]), .lit (.int .i64 0), .lit (.int .i64 (-1))], .agg [.lit (.string [43]), .lit (.int .i64 1), .lit (.int .i64 (-1))], .agg [.lit (.string [63]), .lit (.int .i64 0), .lit (.int .i64 1)]]
def laid_ablaut_lawtext_arrows {H : Type} : DataW H := .agg [.lit (.string [32, 62, 32]), .lit (.string [32, 62, 62, 32]), .lit (.string [32, 60, 60, 32])]
/-- One of Go's own tables, pinned by name: the form's constant. -/
def laid_unicode_utf8_first : DataW Unit := Go.Pinned.utf8First

/-- 'ablautlaw09.LawtextBack': WHATEVER THE INPUT: true; the input reads as it did. -/
def lawtextBackSpec : ChangeSpec := { name := "lawtextBack", fn := fun _ => fun
  | [d] => { results := [.lit (.bool true)], args := [d] }
  | _ => none }
def lawtextBackRow : OpenClaim := { program := "ytpnaeljbfnjghaagreatdoor", sum := "f7c677b80f1291b8a4f1bc33a78b6108bae8a3efa6b959e54bf9ee5fa3159563", func := "ablaut/ablautlaw09.LawtextBack", spec := "lawtextBack", inPlace := ["internal/bytealg.IndexByteString", "internal/bytealg.IndexString", "internal/abi.NoEscape", "internal/bytealg.MakeNoZero", "internal/bytealg.CountString"], unfollowed := true, recurses := true, named := ["unicode/utf8.first", "unicode/utf8.acceptRanges", "ablaut/lawtext.arrows", "internal/strconv.uint64pow10", "math/bits.deBruijn32tab", "math/bits.deBruijn64tab", "ablaut/lawtext.signs", "internal/bytealg.MaxLen", "strconv.ErrSyntax", "strconv.ErrRange"], loops := true, plainKeys := false, apart := false, laid := [("math/bits.deBruijn32tab", laid_math_bits_deBruijn32tab), ("math/bits.deBruijn64tab", laid_math_bits_deBruijn64tab), ("internal/strconv.uint64pow10", laid_internal_strconv_uint64pow10), ("unicode/utf8.acceptRanges", laid_unicode_utf8_acceptRanges), ("strconv.ErrRange", laid_strconv_ErrRange), ("strconv.ErrSyntax", laid_strconv_ErrSyntax), ("ablaut/lawtext.signs", laid_ablaut_lawtext_signs), ("ablaut/lawtext.arrows", laid_ablaut_lawtext_arrows), ("unicode/utf8.first", laid_unicode_utf8_first)] }
def LawtextBackSaid : Prop := lawtextBackRow.holds Tryz.pinned (OpenSpec.ofChange lawtextBackSpec)

/-- ITS FALSE NEIGHBOUR: 'it returns false'. Refute it at one input. -/
def lawtextBackWrong : ChangeSpec := { name := "lawtextBack", fn := fun _ => fun
  | [d] => { results := [.lit (.bool false)], args := [d] }
  | _ => none }
def LawtextBackWrongFalsely : Prop := lawtextBackRow.holds Tryz.pinned (OpenSpec.ofChange lawtextBackWrong)

/-- 'ablautlaw09.LawtextReads': WHATEVER THE INPUT: true; the input reads as it did. -/
def lawtextReadsSpec : ChangeSpec := { name := "lawtextReads", fn := fun _ => fun
  | [d1, d2] => { results := [.lit (.bool true)], args := [d1, d2] }
  | _ => none }
def lawtextReadsRow : OpenClaim := { program := "ytpnaeljbfnjghaagreatdoor", sum := "f7c677b80f1291b8a4f1bc33a78b6108bae8a3efa6b959e54bf9ee5fa3159563", func := "ablaut/ablautlaw09.LawtextReads", spec := "lawtextReads", inPlace := ["internal/bytealg.IndexByteString", "internal/bytealg.IndexString", "internal/abi.NoEscape", "internal/bytealg.MakeNoZero", "internal/bytealg.CountString"], unfollowed := true, recurses := true, named := ["unicode/utf8.first", "unicode/utf8.acceptRanges", "ablaut/lawtext.arrows", "internal/strconv.uint64pow10", "math/bits.deBruijn32tab", "math/bits.deBruijn64tab", "ablaut/lawtext.signs", "internal/bytealg.MaxLen", "strconv.ErrSyntax", "strconv.ErrRange"], plainKeys := false, apart := false, laid := [("math/bits.deBruijn32tab", laid_math_bits_deBruijn32tab), ("math/bits.deBruijn64tab", laid_math_bits_deBruijn64tab), ("internal/strconv.uint64pow10", laid_internal_strconv_uint64pow10), ("unicode/utf8.acceptRanges", laid_unicode_utf8_acceptRanges), ("strconv.ErrRange", laid_strconv_ErrRange), ("strconv.ErrSyntax", laid_strconv_ErrSyntax), ("ablaut/lawtext.signs", laid_ablaut_lawtext_signs), ("ablaut/lawtext.arrows", laid_ablaut_lawtext_arrows), ("unicode/utf8.first", laid_unicode_utf8_first)] }
def LawtextReadsSaid : Prop := lawtextReadsRow.holds Tryz.pinned (OpenSpec.ofChange lawtextReadsSpec)

/-- ITS FALSE NEIGHBOUR: 'it returns false'. Refute it at one input. -/
def lawtextReadsWrong : ChangeSpec := { name := "lawtextReads", fn := fun _ => fun
  | [d1, d2] => { results := [.lit (.bool false)], args := [d1, d2] }
  | _ => none }
def LawtextReadsWrongFalsely : Prop := lawtextReadsRow.holds Tryz.pinned (OpenSpec.ofChange lawtextReadsWrong)

/-- 'ablautlaw09.LawtextLists': WHATEVER THE INPUT: true; the input reads as it did. -/
def lawtextListsSpec : ChangeSpec := { name := "lawtextLists", fn := fun _ => fun
  | [d1, d2, d3] => { results := [.lit (.bool true)], args := [d1, d2, d3] }
  | _ => none }
def lawtextListsRow : OpenClaim := { program := "ytpnaeljbfnjghaagreatdoor", sum := "f7c677b80f1291b8a4f1bc33a78b6108bae8a3efa6b959e54bf9ee5fa3159563", func := "ablaut/ablautlaw09.LawtextLists", spec := "lawtextLists", inPlace := ["internal/bytealg.IndexByteString", "internal/bytealg.IndexString", "internal/abi.NoEscape", "internal/bytealg.MakeNoZero", "internal/bytealg.CountString"], unfollowed := true, recurses := true, named := ["unicode/utf8.first", "unicode/utf8.acceptRanges", "ablaut/lawtext.arrows", "internal/strconv.uint64pow10", "math/bits.deBruijn32tab", "math/bits.deBruijn64tab", "ablaut/lawtext.signs", "internal/bytealg.MaxLen", "strconv.ErrSyntax", "strconv.ErrRange"], loops := true, plainKeys := false, apart := false, laid := [("math/bits.deBruijn32tab", laid_math_bits_deBruijn32tab), ("math/bits.deBruijn64tab", laid_math_bits_deBruijn64tab), ("internal/strconv.uint64pow10", laid_internal_strconv_uint64pow10), ("unicode/utf8.acceptRanges", laid_unicode_utf8_acceptRanges), ("strconv.ErrRange", laid_strconv_ErrRange), ("strconv.ErrSyntax", laid_strconv_ErrSyntax), ("ablaut/lawtext.signs", laid_ablaut_lawtext_signs), ("ablaut/lawtext.arrows", laid_ablaut_lawtext_arrows), ("unicode/utf8.first", laid_unicode_utf8_first)] }
def LawtextListsSaid : Prop := lawtextListsRow.holds Tryz.pinned (OpenSpec.ofChange lawtextListsSpec)

/-- ITS FALSE NEIGHBOUR: 'it returns false'. Refute it at one input. -/
def lawtextListsWrong : ChangeSpec := { name := "lawtextLists", fn := fun _ => fun
  | [d1, d2, d3] => { results := [.lit (.bool false)], args := [d1, d2, d3] }
  | _ => none }
def LawtextListsWrongFalsely : Prop := lawtextListsRow.holds Tryz.pinned (OpenSpec.ofChange lawtextListsWrong)

/-- 'ablautlaw09.LawtextNil': WHATEVER THE INPUT: true; the input reads as it did. -/
def lawtextNilSpec : ChangeSpec := { name := "lawtextNil", fn := fun _ => fun
  | [d1, d2, d3] => { results := [.lit (.bool true)], args := [d1, d2, d3] }
  | _ => none }
def lawtextNilRow : OpenClaim := { program := "ytpnaeljbfnjghaagreatdoor", sum := "f7c677b80f1291b8a4f1bc33a78b6108bae8a3efa6b959e54bf9ee5fa3159563", func := "ablaut/ablautlaw09.LawtextNil", spec := "lawtextNil", inPlace := ["internal/bytealg.IndexByteString", "internal/bytealg.IndexString", "internal/bytealg.CountString", "internal/abi.NoEscape", "internal/bytealg.MakeNoZero"], unfollowed := true, recurses := true, named := ["ablaut/lawtext.arrows", "internal/bytealg.MaxLen", "unicode/utf8.first", "unicode/utf8.acceptRanges", "strconv.ErrSyntax", "strconv.ErrRange", "internal/strconv.uint64pow10", "math/bits.deBruijn32tab", "math/bits.deBruijn64tab", "ablaut/lawtext.signs"], loops := true, plainKeys := false, apart := false, laid := [("math/bits.deBruijn32tab", laid_math_bits_deBruijn32tab), ("math/bits.deBruijn64tab", laid_math_bits_deBruijn64tab), ("internal/strconv.uint64pow10", laid_internal_strconv_uint64pow10), ("unicode/utf8.acceptRanges", laid_unicode_utf8_acceptRanges), ("strconv.ErrRange", laid_strconv_ErrRange), ("strconv.ErrSyntax", laid_strconv_ErrSyntax), ("ablaut/lawtext.signs", laid_ablaut_lawtext_signs), ("ablaut/lawtext.arrows", laid_ablaut_lawtext_arrows), ("unicode/utf8.first", laid_unicode_utf8_first)] }
def LawtextNilSaid : Prop := lawtextNilRow.holds Tryz.pinned (OpenSpec.ofChange lawtextNilSpec)

/-- ITS FALSE NEIGHBOUR: 'it returns false'. Refute it at one input. -/
def lawtextNilWrong : ChangeSpec := { name := "lawtextNil", fn := fun _ => fun
  | [d1, d2, d3] => { results := [.lit (.bool false)], args := [d1, d2, d3] }
  | _ => none }
def LawtextNilWrongFalsely : Prop := lawtextNilRow.holds Tryz.pinned (OpenSpec.ofChange lawtextNilWrong)

/-- 'ablautlaw09.LawtextLines': WHATEVER THE INPUT: true; the input reads as it did. -/
def lawtextLinesSpec : ChangeSpec := { name := "lawtextLines", fn := fun _ => fun
  | [d1, d2, d3] => { results := [.lit (.bool true)], args := [d1, d2, d3] }
  | _ => none }
def lawtextLinesRow : OpenClaim := { program := "ytpnaeljbfnjghaagreatdoor", sum := "f7c677b80f1291b8a4f1bc33a78b6108bae8a3efa6b959e54bf9ee5fa3159563", func := "ablaut/ablautlaw09.LawtextLines", spec := "lawtextLines", inPlace := ["internal/bytealg.IndexByteString", "internal/bytealg.IndexString", "internal/abi.NoEscape", "internal/bytealg.MakeNoZero", "internal/bytealg.CountString"], unfollowed := true, recurses := true, named := ["internal/bytealg.MaxLen", "unicode/utf8.first", "unicode/utf8.acceptRanges", "ablaut/lawtext.arrows", "internal/strconv.uint64pow10", "math/bits.deBruijn32tab", "math/bits.deBruijn64tab", "ablaut/lawtext.signs", "strconv.ErrSyntax", "strconv.ErrRange"], loops := true, plainKeys := false, apart := false, laid := [("math/bits.deBruijn32tab", laid_math_bits_deBruijn32tab), ("math/bits.deBruijn64tab", laid_math_bits_deBruijn64tab), ("internal/strconv.uint64pow10", laid_internal_strconv_uint64pow10), ("unicode/utf8.acceptRanges", laid_unicode_utf8_acceptRanges), ("strconv.ErrRange", laid_strconv_ErrRange), ("strconv.ErrSyntax", laid_strconv_ErrSyntax), ("ablaut/lawtext.signs", laid_ablaut_lawtext_signs), ("ablaut/lawtext.arrows", laid_ablaut_lawtext_arrows), ("unicode/utf8.first", laid_unicode_utf8_first)] }
def LawtextLinesSaid : Prop := lawtextLinesRow.holds Tryz.pinned (OpenSpec.ofChange lawtextLinesSpec)

/-- ITS FALSE NEIGHBOUR: 'it returns false'. Refute it at one input. -/
def lawtextLinesWrong : ChangeSpec := { name := "lawtextLines", fn := fun _ => fun
  | [d1, d2, d3] => { results := [.lit (.bool false)], args := [d1, d2, d3] }
  | _ => none }
def LawtextLinesWrongFalsely : Prop := lawtextLinesRow.holds Tryz.pinned (OpenSpec.ofChange lawtextLinesWrong)

/-- 'ablauttop.TopWritten': WHATEVER THE INPUT: true; the input reads as it did. -/
def topWrittenSpec : ChangeSpec := { name := "topWritten", fn := fun _ => fun
  | [d1, d2] => { results := [.lit (.bool true)], args := [d1, d2] }
  | _ => none }
def topWrittenRow : OpenClaim := { program := "ytpnaeljbfnjghaagreatdoor", sum := "f7c677b80f1291b8a4f1bc33a78b6108bae8a3efa6b959e54bf9ee5fa3159563", func := "ablaut/ablauttop.TopWritten", spec := "topWritten", inPlace := ["internal/bytealg.IndexByteString", "internal/bytealg.IndexString", "internal/abi.NoEscape", "internal/bytealg.MakeNoZero", "internal/bytealg.CountString"], unfollowed := true, recurses := true, named := ["unicode/utf8.first", "unicode/utf8.acceptRanges", "ablaut/lawtext.arrows", "internal/strconv.uint64pow10", "math/bits.deBruijn32tab", "math/bits.deBruijn64tab", "ablaut/lawtext.signs", "internal/bytealg.MaxLen", "strconv.ErrSyntax", "strconv.ErrRange"], loops := true, plainKeys := false, apart := false, laid := [("math/bits.deBruijn32tab", laid_math_bits_deBruijn32tab), ("math/bits.deBruijn64tab", laid_math_bits_deBruijn64tab), ("internal/strconv.uint64pow10", laid_internal_strconv_uint64pow10), ("unicode/utf8.acceptRanges", laid_unicode_utf8_acceptRanges), ("strconv.ErrRange", laid_strconv_ErrRange), ("strconv.ErrSyntax", laid_strconv_ErrSyntax), ("ablaut/lawtext.signs", laid_ablaut_lawtext_signs), ("ablaut/lawtext.arrows", laid_ablaut_lawtext_arrows), ("unicode/utf8.first", laid_unicode_utf8_first)] }
def TopWrittenSaid : Prop := topWrittenRow.holds Tryz.pinned (OpenSpec.ofChange topWrittenSpec)

/-- ITS FALSE NEIGHBOUR: 'it returns false'. Refute it at one input. -/
def topWrittenWrong : ChangeSpec := { name := "topWritten", fn := fun _ => fun
  | [d1, d2] => { results := [.lit (.bool false)], args := [d1, d2] }
  | _ => none }
def TopWrittenWrongFalsely : Prop := topWrittenRow.holds Tryz.pinned (OpenSpec.ofChange topWrittenWrong)

/-- 'ablautlaw09.LawtextKnown': WHATEVER THE INPUT: true; the input reads as it did. -/
def lawtextKnownSpec : ChangeSpec := { name := "lawtextKnown", fn := fun _ => fun
  | [] => { results := [.lit (.bool true)], args := [] }
  | _ => none }
def lawtextKnownRow : OpenClaim := { program := "ytpnaeljbfnjghaagreatdoor", sum := "f7c677b80f1291b8a4f1bc33a78b6108bae8a3efa6b959e54bf9ee5fa3159563", func := "ablaut/ablautlaw09.LawtextKnown", spec := "lawtextKnown", inPlace := ["internal/abi.NoEscape", "internal/bytealg.MakeNoZero", "internal/bytealg.IndexByteString", "internal/bytealg.IndexString", "internal/bytealg.CountString"], unfollowed := true, recurses := true, named := ["ablaut/lawtext.signs", "internal/strconv.uint64pow10", "math/bits.deBruijn32tab", "math/bits.deBruijn64tab", "internal/bytealg.MaxLen", "unicode/utf8.first", "unicode/utf8.acceptRanges", "strconv.ErrSyntax", "strconv.ErrRange", "ablaut/lawtext.arrows"], plainKeys := false, apart := false, laid := [("math/bits.deBruijn32tab", laid_math_bits_deBruijn32tab), ("math/bits.deBruijn64tab", laid_math_bits_deBruijn64tab), ("internal/strconv.uint64pow10", laid_internal_strconv_uint64pow10), ("unicode/utf8.acceptRanges", laid_unicode_utf8_acceptRanges), ("strconv.ErrRange", laid_strconv_ErrRange), ("strconv.ErrSyntax", laid_strconv_ErrSyntax), ("ablaut/lawtext.signs", laid_ablaut_lawtext_signs), ("ablaut/lawtext.arrows", laid_ablaut_lawtext_arrows), ("unicode/utf8.first", laid_unicode_utf8_first)] }
def LawtextKnownSaid : Prop := lawtextKnownRow.holds Tryz.pinned (OpenSpec.ofChange lawtextKnownSpec)

/-- ITS FALSE NEIGHBOUR: 'it returns false'. Refute it at one input. -/
def lawtextKnownWrong : ChangeSpec := { name := "lawtextKnown", fn := fun _ => fun
  | [] => { results := [.lit (.bool false)], args := [] }
  | _ => none }
def LawtextKnownWrongFalsely : Prop := lawtextKnownRow.holds Tryz.pinned (OpenSpec.ofChange lawtextKnownWrong)

/-- 'ablautlaw09.LawtextKeeps': WHATEVER THE INPUT: true; the input reads as it did. -/
def lawtextKeepsSpec : ChangeSpec := { name := "lawtextKeeps", fn := fun _ => fun
  | [d1, d2] => { results := [.lit (.bool true)], args := [d1, d2] }
  | _ => none }
def lawtextKeepsRow : OpenClaim := { program := "ytpnaeljbfnjghaagreatdoor", sum := "f7c677b80f1291b8a4f1bc33a78b6108bae8a3efa6b959e54bf9ee5fa3159563", func := "ablaut/ablautlaw09.LawtextKeeps", spec := "lawtextKeeps", inPlace := ["internal/bytealg.IndexByteString", "internal/bytealg.IndexString", "internal/abi.NoEscape", "internal/bytealg.MakeNoZero", "internal/bytealg.CountString"], unfollowed := true, recurses := true, named := ["unicode/utf8.first", "unicode/utf8.acceptRanges", "ablaut/lawtext.arrows", "internal/strconv.uint64pow10", "math/bits.deBruijn32tab", "math/bits.deBruijn64tab", "ablaut/lawtext.signs", "internal/bytealg.MaxLen", "strconv.ErrSyntax", "strconv.ErrRange"], loops := true, plainKeys := false, apart := false, laid := [("math/bits.deBruijn32tab", laid_math_bits_deBruijn32tab), ("math/bits.deBruijn64tab", laid_math_bits_deBruijn64tab), ("internal/strconv.uint64pow10", laid_internal_strconv_uint64pow10), ("unicode/utf8.acceptRanges", laid_unicode_utf8_acceptRanges), ("strconv.ErrRange", laid_strconv_ErrRange), ("strconv.ErrSyntax", laid_strconv_ErrSyntax), ("ablaut/lawtext.signs", laid_ablaut_lawtext_signs), ("ablaut/lawtext.arrows", laid_ablaut_lawtext_arrows), ("unicode/utf8.first", laid_unicode_utf8_first)] }
def LawtextKeepsSaid : Prop := lawtextKeepsRow.holds Tryz.pinned (OpenSpec.ofChange lawtextKeepsSpec)

/-- ITS FALSE NEIGHBOUR: 'it returns false'. Refute it at one input. -/
def lawtextKeepsWrong : ChangeSpec := { name := "lawtextKeeps", fn := fun _ => fun
  | [d1, d2] => { results := [.lit (.bool false)], args := [d1, d2] }
  | _ => none }
def LawtextKeepsWrongFalsely : Prop := lawtextKeepsRow.holds Tryz.pinned (OpenSpec.ofChange lawtextKeepsWrong)

/-- 'ablautlaw09.LawtextTurns': WHATEVER THE INPUT: true; the input reads as it did. -/
def lawtextTurnsSpec : ChangeSpec := { name := "lawtextTurns", fn := fun _ => fun
  | [d1, d2] => { results := [.lit (.bool true)], args := [d1, d2] }
  | _ => none }
def lawtextTurnsRow : OpenClaim := { program := "ytpnaeljbfnjghaagreatdoor", sum := "f7c677b80f1291b8a4f1bc33a78b6108bae8a3efa6b959e54bf9ee5fa3159563", func := "ablaut/ablautlaw09.LawtextTurns", spec := "lawtextTurns", inPlace := ["internal/bytealg.IndexByteString", "internal/bytealg.IndexString", "internal/abi.NoEscape", "internal/bytealg.MakeNoZero", "internal/bytealg.CountString"], unfollowed := true, recurses := true, named := ["unicode/utf8.first", "unicode/utf8.acceptRanges", "ablaut/lawtext.arrows", "internal/strconv.uint64pow10", "math/bits.deBruijn32tab", "math/bits.deBruijn64tab", "ablaut/lawtext.signs", "internal/bytealg.MaxLen", "strconv.ErrSyntax", "strconv.ErrRange"], loops := true, plainKeys := false, apart := false, laid := [("math/bits.deBruijn32tab", laid_math_bits_deBruijn32tab), ("math/bits.deBruijn64tab", laid_math_bits_deBruijn64tab), ("internal/strconv.uint64pow10", laid_internal_strconv_uint64pow10), ("unicode/utf8.acceptRanges", laid_unicode_utf8_acceptRanges), ("strconv.ErrRange", laid_strconv_ErrRange), ("strconv.ErrSyntax", laid_strconv_ErrSyntax), ("ablaut/lawtext.signs", laid_ablaut_lawtext_signs), ("ablaut/lawtext.arrows", laid_ablaut_lawtext_arrows), ("unicode/utf8.first", laid_unicode_utf8_first)] }
def LawtextTurnsSaid : Prop := lawtextTurnsRow.holds Tryz.pinned (OpenSpec.ofChange lawtextTurnsSpec)

/-- ITS FALSE NEIGHBOUR: 'it returns false'. Refute it at one input. -/
def lawtextTurnsWrong : ChangeSpec := { name := "lawtextTurns", fn := fun _ => fun
  | [d1, d2] => { results := [.lit (.bool false)], args := [d1, d2] }
  | _ => none }
def LawtextTurnsWrongFalsely : Prop := lawtextTurnsRow.holds Tryz.pinned (OpenSpec.ofChange lawtextTurnsWrong)

/- THE SECOND FORM. 'bulk': how many values and letters a reading holds, each counted each time it is reached (what is shared counts as often as it is met; a slice's spare places count too). A statement '..UptoSaid' is the law's where the arguments, and the package variables that the reading takes, are together of bulk at most 1048576: NARROWER than '..Said'. Prove '..Said' where nothing that the law and all that it calls make is longer than what came in: it says more and counts as full. Else prove '..UptoSaid'. A law counts once. -/
mutual
def uptoBulk {H : Type} : DataW H → Nat
  | .lit (.string bytes) => bytes.length + 1
  | .lit _ => 1
  | .nil => 1
  | .ptr d => uptoBulk d + 1
  | .slice elems spare => uptoBulkAll elems + uptoBulkAll spare + 1
  | .agg parts => uptoBulkAll parts + 1
  | .iface _ d => uptoBulk d + 1
  | .map entries => uptoBulkEntries entries + 1
  | .held _ => 1
def uptoBulkAll {H : Type} : List (DataW H) → Nat
  | [] => 0
  | d :: r => uptoBulk d + uptoBulkAll r
def uptoBulkEntries {H : Type} : List (Lit × DataW H) → Nat
  | [] => 0
  | x :: r => uptoBulkEntry x + uptoBulkEntries r
def uptoBulkEntry {H : Type} : Lit × DataW H → Nat
  | (.string bytes, d) => bytes.length + uptoBulk d + 1
  | (_, d) => uptoBulk d + 1
 end
def uptoSmall : (H : Type) → List (DataW H) → Bool := fun _ ds => decide (uptoBulkAll ds ≤ 1048576)
def OpenSpec.upto (s : _root_.Go.ChangeSpec) : _root_.Go.OpenSpec := { _root_.Go.OpenSpec.ofChange s with cond := some uptoSmall }

/-- 'ablautlaw09.LawtextBack', WHERE WHAT IT READS IS OF BULK AT MOST 1048576: true; the input reads as it did. -/
def lawtextBackUptoRow : OpenClaim := { program := "ytpnaeljbfnjghaagreatdoor", sum := "f7c677b80f1291b8a4f1bc33a78b6108bae8a3efa6b959e54bf9ee5fa3159563", func := "ablaut/ablautlaw09.LawtextBack", spec := "lawtextBack", inPlace := ["internal/bytealg.IndexByteString", "internal/bytealg.IndexString", "internal/abi.NoEscape", "internal/bytealg.MakeNoZero", "internal/bytealg.CountString"], unfollowed := true, recurses := true, named := ["unicode/utf8.first", "unicode/utf8.acceptRanges", "ablaut/lawtext.arrows", "internal/strconv.uint64pow10", "math/bits.deBruijn32tab", "math/bits.deBruijn64tab", "ablaut/lawtext.signs", "internal/bytealg.MaxLen", "strconv.ErrSyntax", "strconv.ErrRange"], loops := true, plainKeys := false, apart := false, laid := [("math/bits.deBruijn32tab", laid_math_bits_deBruijn32tab), ("math/bits.deBruijn64tab", laid_math_bits_deBruijn64tab), ("internal/strconv.uint64pow10", laid_internal_strconv_uint64pow10), ("unicode/utf8.acceptRanges", laid_unicode_utf8_acceptRanges), ("strconv.ErrRange", laid_strconv_ErrRange), ("strconv.ErrSyntax", laid_strconv_ErrSyntax), ("ablaut/lawtext.signs", laid_ablaut_lawtext_signs), ("ablaut/lawtext.arrows", laid_ablaut_lawtext_arrows), ("unicode/utf8.first", laid_unicode_utf8_first)], narrowed := true }
def LawtextBackUptoSaid : Prop := lawtextBackUptoRow.holds Tryz.pinned (OpenSpec.upto lawtextBackSpec)

/-- 'ablautlaw09.LawtextReads', WHERE WHAT IT READS IS OF BULK AT MOST 1048576: true; the input reads as it did. -/
def lawtextReadsUptoRow : OpenClaim := { program := "ytpnaeljbfnjghaagreatdoor", sum := "f7c677b80f1291b8a4f1bc33a78b6108bae8a3efa6b959e54bf9ee5fa3159563", func := "ablaut/ablautlaw09.LawtextReads", spec := "lawtextReads", inPlace := ["internal/bytealg.IndexByteString", "internal/bytealg.IndexString", "internal/abi.NoEscape", "internal/bytealg.MakeNoZero", "internal/bytealg.CountString"], unfollowed := true, recurses := true, named := ["unicode/utf8.first", "unicode/utf8.acceptRanges", "ablaut/lawtext.arrows", "internal/strconv.uint64pow10", "math/bits.deBruijn32tab", "math/bits.deBruijn64tab", "ablaut/lawtext.signs", "internal/bytealg.MaxLen", "strconv.ErrSyntax", "strconv.ErrRange"], plainKeys := false, apart := false, laid := [("math/bits.deBruijn32tab", laid_math_bits_deBruijn32tab), ("math/bits.deBruijn64tab", laid_math_bits_deBruijn64tab), ("internal/strconv.uint64pow10", laid_internal_strconv_uint64pow10), ("unicode/utf8.acceptRanges", laid_unicode_utf8_acceptRanges), ("strconv.ErrRange", laid_strconv_ErrRange), ("strconv.ErrSyntax", laid_strconv_ErrSyntax), ("ablaut/lawtext.signs", laid_ablaut_lawtext_signs), ("ablaut/lawtext.arrows", laid_ablaut_lawtext_arrows), ("unicode/utf8.first", laid_unicode_utf8_first)], narrowed := true }
def LawtextReadsUptoSaid : Prop := lawtextReadsUptoRow.holds Tryz.pinned (OpenSpec.upto lawtextReadsSpec)

/-- 'ablautlaw09.LawtextLists', WHERE WHAT IT READS IS OF BULK AT MOST 1048576: true; the input reads as it did. -/
def lawtextListsUptoRow : OpenClaim := { program := "ytpnaeljbfnjghaagreatdoor", sum := "f7c677b80f1291b8a4f1bc33a78b6108bae8a3efa6b959e54bf9ee5fa3159563", func := "ablaut/ablautlaw09.LawtextLists", spec := "lawtextLists", inPlace := ["internal/bytealg.IndexByteString", "internal/bytealg.IndexString", "internal/abi.NoEscape", "internal/bytealg.MakeNoZero", "internal/bytealg.CountString"], unfollowed := true, recurses := true, named := ["unicode/utf8.first", "unicode/utf8.acceptRanges", "ablaut/lawtext.arrows", "internal/strconv.uint64pow10", "math/bits.deBruijn32tab", "math/bits.deBruijn64tab", "ablaut/lawtext.signs", "internal/bytealg.MaxLen", "strconv.ErrSyntax", "strconv.ErrRange"], loops := true, plainKeys := false, apart := false, laid := [("math/bits.deBruijn32tab", laid_math_bits_deBruijn32tab), ("math/bits.deBruijn64tab", laid_math_bits_deBruijn64tab), ("internal/strconv.uint64pow10", laid_internal_strconv_uint64pow10), ("unicode/utf8.acceptRanges", laid_unicode_utf8_acceptRanges), ("strconv.ErrRange", laid_strconv_ErrRange), ("strconv.ErrSyntax", laid_strconv_ErrSyntax), ("ablaut/lawtext.signs", laid_ablaut_lawtext_signs), ("ablaut/lawtext.arrows", laid_ablaut_lawtext_arrows), ("unicode/utf8.first", laid_unicode_utf8_first)], narrowed := true }
def LawtextListsUptoSaid : Prop := lawtextListsUptoRow.holds Tryz.pinned (OpenSpec.upto lawtextListsSpec)

/-- 'ablautlaw09.LawtextNil', WHERE WHAT IT READS IS OF BULK AT MOST 1048576: true; the input reads as it did. -/
def lawtextNilUptoRow : OpenClaim := { program := "ytpnaeljbfnjghaagreatdoor", sum := "f7c677b80f1291b8a4f1bc33a78b6108bae8a3efa6b959e54bf9ee5fa3159563", func := "ablaut/ablautlaw09.LawtextNil", spec := "lawtextNil", inPlace := ["internal/bytealg.IndexByteString", "internal/bytealg.IndexString", "internal/bytealg.CountString", "internal/abi.NoEscape", "internal/bytealg.MakeNoZero"], unfollowed := true, recurses := true, named := ["ablaut/lawtext.arrows", "internal/bytealg.MaxLen", "unicode/utf8.first", "unicode/utf8.acceptRanges", "strconv.ErrSyntax", "strconv.ErrRange", "internal/strconv.uint64pow10", "math/bits.deBruijn32tab", "math/bits.deBruijn64tab", "ablaut/lawtext.signs"], loops := true, plainKeys := false, apart := false, laid := [("math/bits.deBruijn32tab", laid_math_bits_deBruijn32tab), ("math/bits.deBruijn64tab", laid_math_bits_deBruijn64tab), ("internal/strconv.uint64pow10", laid_internal_strconv_uint64pow10), ("unicode/utf8.acceptRanges", laid_unicode_utf8_acceptRanges), ("strconv.ErrRange", laid_strconv_ErrRange), ("strconv.ErrSyntax", laid_strconv_ErrSyntax), ("ablaut/lawtext.signs", laid_ablaut_lawtext_signs), ("ablaut/lawtext.arrows", laid_ablaut_lawtext_arrows), ("unicode/utf8.first", laid_unicode_utf8_first)], narrowed := true }
def LawtextNilUptoSaid : Prop := lawtextNilUptoRow.holds Tryz.pinned (OpenSpec.upto lawtextNilSpec)

/-- 'ablautlaw09.LawtextLines', WHERE WHAT IT READS IS OF BULK AT MOST 1048576: true; the input reads as it did. -/
def lawtextLinesUptoRow : OpenClaim := { program := "ytpnaeljbfnjghaagreatdoor", sum := "f7c677b80f1291b8a4f1bc33a78b6108bae8a3efa6b959e54bf9ee5fa3159563", func := "ablaut/ablautlaw09.LawtextLines", spec := "lawtextLines", inPlace := ["internal/bytealg.IndexByteString", "internal/bytealg.IndexString", "internal/abi.NoEscape", "internal/bytealg.MakeNoZero", "internal/bytealg.CountString"], unfollowed := true, recurses := true, named := ["internal/bytealg.MaxLen", "unicode/utf8.first", "unicode/utf8.acceptRanges", "ablaut/lawtext.arrows", "internal/strconv.uint64pow10", "math/bits.deBruijn32tab", "math/bits.deBruijn64tab", "ablaut/lawtext.signs", "strconv.ErrSyntax", "strconv.ErrRange"], loops := true, plainKeys := false, apart := false, laid := [("math/bits.deBruijn32tab", laid_math_bits_deBruijn32tab), ("math/bits.deBruijn64tab", laid_math_bits_deBruijn64tab), ("internal/strconv.uint64pow10", laid_internal_strconv_uint64pow10), ("unicode/utf8.acceptRanges", laid_unicode_utf8_acceptRanges), ("strconv.ErrRange", laid_strconv_ErrRange), ("strconv.ErrSyntax", laid_strconv_ErrSyntax), ("ablaut/lawtext.signs", laid_ablaut_lawtext_signs), ("ablaut/lawtext.arrows", laid_ablaut_lawtext_arrows), ("unicode/utf8.first", laid_unicode_utf8_first)], narrowed := true }
def LawtextLinesUptoSaid : Prop := lawtextLinesUptoRow.holds Tryz.pinned (OpenSpec.upto lawtextLinesSpec)

/-- 'ablauttop.TopWritten', WHERE WHAT IT READS IS OF BULK AT MOST 1048576: true; the input reads as it did. -/
def topWrittenUptoRow : OpenClaim := { program := "ytpnaeljbfnjghaagreatdoor", sum := "f7c677b80f1291b8a4f1bc33a78b6108bae8a3efa6b959e54bf9ee5fa3159563", func := "ablaut/ablauttop.TopWritten", spec := "topWritten", inPlace := ["internal/bytealg.IndexByteString", "internal/bytealg.IndexString", "internal/abi.NoEscape", "internal/bytealg.MakeNoZero", "internal/bytealg.CountString"], unfollowed := true, recurses := true, named := ["unicode/utf8.first", "unicode/utf8.acceptRanges", "ablaut/lawtext.arrows", "internal/strconv.uint64pow10", "math/bits.deBruijn32tab", "math/bits.deBruijn64tab", "ablaut/lawtext.signs", "internal/bytealg.MaxLen", "strconv.ErrSyntax", "strconv.ErrRange"], loops := true, plainKeys := false, apart := false, laid := [("math/bits.deBruijn32tab", laid_math_bits_deBruijn32tab), ("math/bits.deBruijn64tab", laid_math_bits_deBruijn64tab), ("internal/strconv.uint64pow10", laid_internal_strconv_uint64pow10), ("unicode/utf8.acceptRanges", laid_unicode_utf8_acceptRanges), ("strconv.ErrRange", laid_strconv_ErrRange), ("strconv.ErrSyntax", laid_strconv_ErrSyntax), ("ablaut/lawtext.signs", laid_ablaut_lawtext_signs), ("ablaut/lawtext.arrows", laid_ablaut_lawtext_arrows), ("unicode/utf8.first", laid_unicode_utf8_first)], narrowed := true }
def TopWrittenUptoSaid : Prop := topWrittenUptoRow.holds Tryz.pinned (OpenSpec.upto topWrittenSpec)

/-- 'ablautlaw09.LawtextKnown', WHERE WHAT IT READS IS OF BULK AT MOST 1048576: true; the input reads as it did. -/
def lawtextKnownUptoRow : OpenClaim := { program := "ytpnaeljbfnjghaagreatdoor", sum := "f7c677b80f1291b8a4f1bc33a78b6108bae8a3efa6b959e54bf9ee5fa3159563", func := "ablaut/ablautlaw09.LawtextKnown", spec := "lawtextKnown", inPlace := ["internal/abi.NoEscape", "internal/bytealg.MakeNoZero", "internal/bytealg.IndexByteString", "internal/bytealg.IndexString", "internal/bytealg.CountString"], unfollowed := true, recurses := true, named := ["ablaut/lawtext.signs", "internal/strconv.uint64pow10", "math/bits.deBruijn32tab", "math/bits.deBruijn64tab", "internal/bytealg.MaxLen", "unicode/utf8.first", "unicode/utf8.acceptRanges", "strconv.ErrSyntax", "strconv.ErrRange", "ablaut/lawtext.arrows"], plainKeys := false, apart := false, laid := [("math/bits.deBruijn32tab", laid_math_bits_deBruijn32tab), ("math/bits.deBruijn64tab", laid_math_bits_deBruijn64tab), ("internal/strconv.uint64pow10", laid_internal_strconv_uint64pow10), ("unicode/utf8.acceptRanges", laid_unicode_utf8_acceptRanges), ("strconv.ErrRange", laid_strconv_ErrRange), ("strconv.ErrSyntax", laid_strconv_ErrSyntax), ("ablaut/lawtext.signs", laid_ablaut_lawtext_signs), ("ablaut/lawtext.arrows", laid_ablaut_lawtext_arrows), ("unicode/utf8.first", laid_unicode_utf8_first)], narrowed := true }
def LawtextKnownUptoSaid : Prop := lawtextKnownUptoRow.holds Tryz.pinned (OpenSpec.upto lawtextKnownSpec)

/-- 'ablautlaw09.LawtextKeeps', WHERE WHAT IT READS IS OF BULK AT MOST 1048576: true; the input reads as it did. -/
def lawtextKeepsUptoRow : OpenClaim := { program := "ytpnaeljbfnjghaagreatdoor", sum := "f7c677b80f1291b8a4f1bc33a78b6108bae8a3efa6b959e54bf9ee5fa3159563", func := "ablaut/ablautlaw09.LawtextKeeps", spec := "lawtextKeeps", inPlace := ["internal/bytealg.IndexByteString", "internal/bytealg.IndexString", "internal/abi.NoEscape", "internal/bytealg.MakeNoZero", "internal/bytealg.CountString"], unfollowed := true, recurses := true, named := ["unicode/utf8.first", "unicode/utf8.acceptRanges", "ablaut/lawtext.arrows", "internal/strconv.uint64pow10", "math/bits.deBruijn32tab", "math/bits.deBruijn64tab", "ablaut/lawtext.signs", "internal/bytealg.MaxLen", "strconv.ErrSyntax", "strconv.ErrRange"], loops := true, plainKeys := false, apart := false, laid := [("math/bits.deBruijn32tab", laid_math_bits_deBruijn32tab), ("math/bits.deBruijn64tab", laid_math_bits_deBruijn64tab), ("internal/strconv.uint64pow10", laid_internal_strconv_uint64pow10), ("unicode/utf8.acceptRanges", laid_unicode_utf8_acceptRanges), ("strconv.ErrRange", laid_strconv_ErrRange), ("strconv.ErrSyntax", laid_strconv_ErrSyntax), ("ablaut/lawtext.signs", laid_ablaut_lawtext_signs), ("ablaut/lawtext.arrows", laid_ablaut_lawtext_arrows), ("unicode/utf8.first", laid_unicode_utf8_first)], narrowed := true }
def LawtextKeepsUptoSaid : Prop := lawtextKeepsUptoRow.holds Tryz.pinned (OpenSpec.upto lawtextKeepsSpec)

/-- 'ablautlaw09.LawtextTurns', WHERE WHAT IT READS IS OF BULK AT MOST 1048576: true; the input reads as it did. -/
def lawtextTurnsUptoRow : OpenClaim := { program := "ytpnaeljbfnjghaagreatdoor", sum := "f7c677b80f1291b8a4f1bc33a78b6108bae8a3efa6b959e54bf9ee5fa3159563", func := "ablaut/ablautlaw09.LawtextTurns", spec := "lawtextTurns", inPlace := ["internal/bytealg.IndexByteString", "internal/bytealg.IndexString", "internal/abi.NoEscape", "internal/bytealg.MakeNoZero", "internal/bytealg.CountString"], unfollowed := true, recurses := true, named := ["unicode/utf8.first", "unicode/utf8.acceptRanges", "ablaut/lawtext.arrows", "internal/strconv.uint64pow10", "math/bits.deBruijn32tab", "math/bits.deBruijn64tab", "ablaut/lawtext.signs", "internal/bytealg.MaxLen", "strconv.ErrSyntax", "strconv.ErrRange"], loops := true, plainKeys := false, apart := false, laid := [("math/bits.deBruijn32tab", laid_math_bits_deBruijn32tab), ("math/bits.deBruijn64tab", laid_math_bits_deBruijn64tab), ("internal/strconv.uint64pow10", laid_internal_strconv_uint64pow10), ("unicode/utf8.acceptRanges", laid_unicode_utf8_acceptRanges), ("strconv.ErrRange", laid_strconv_ErrRange), ("strconv.ErrSyntax", laid_strconv_ErrSyntax), ("ablaut/lawtext.signs", laid_ablaut_lawtext_signs), ("ablaut/lawtext.arrows", laid_ablaut_lawtext_arrows), ("unicode/utf8.first", laid_unicode_utf8_first)], narrowed := true }
def LawtextTurnsUptoSaid : Prop := lawtextTurnsUptoRow.holds Tryz.pinned (OpenSpec.upto lawtextTurnsSpec)

end Rows
end Go.Proofs.YtpnaeljbfnjghaaGreatDoor
