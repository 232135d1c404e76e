/-
  NARROWER THAN 'FOR EVERY INPUT', by the rows' own cells (each row's printed sentence says how): LabAsks: loops, laid · LabFields: loops, laid · LabSwaps: loops, laid · LabNews: loops, laid · LabUndoes: loops, laid · LabKeeps: loops, laid · LabDoes: loops, laid · LabNil: loops, laid · JudgePlays: loops, laid · JudgeLooks: loops, laid · JudgeSames: laid · JudgeMirror: loops, laid.
  DERIVED. THE GIVEN ROWS OF THIS SEAT. 12 by the template 'for every input the law returns true; each argument reads behind the call as it read before'; 0 by the template 'total and deterministic' (their statements: YtdnmnhllfflkoaaGreatDoorTotals.lean).
  GIVEN WITH THE SEED: the statements are not yours to turn. If you find one false, say at which input.
  Laid BY PROGRAM, IN A SANDBOX (cutbox-rows.mjs): the forced cells as the released guide's own fill.sh prints them over the translation 40950cc6f0940d61… (all of the seat's roots in one cut). By AI agents, Wed Nov 11 2026. No macro, syntax, notation, axiom, sorry.
-/
import Derived.Test.YtdnmnhllfflkoaaGreatDoorChecked
import GoSem.PinnedTables
import GoSem.Claim
import GoSem.ClaimJoined
import GoSem.ClaimMapViews
import Derived.JoinedTies
import Derived.KernelRfl
namespace Go.Proofs.YtdnmnhllfflkoaaGreatDoor
/- THE CELL 'sum', in the pinned program and in every row, IS THE sha256 OF THE DUMP (.gsa) THAT YtdnmnhllfflkoaaGreatDoorProg.lean LOADS. Nothing in Lean hashes anything: it is a label: what it is worth is what the hold of that sum in a sandbox is worth. -/
noncomputable def Tryz.pinned : Pinned := { name := "ytdnmnhllfflkoaagreatdoor", sum := "40950cc6f0940d61be5e72200b7aae6751d3a11a3fac4b61ab77850696788cae", checked := Tryz.checked }
namespace Rows
def none {H : Type} : Left H := { results := [], args := [] }

/- WHAT THE LISTED PACKAGE-LEVEL VARIABLES READ AS WHEN THE CALL BEGINS. Each datum BY PROGRAM (the guide's laid-datum.mjs) off the statement by which the dump's own 'gosem.cut.vars' lays the variable. In a bare row this is a premise. The card (YtdnmnhllfflkoaaGreatDoorCards.lean) ties it to the program's text. -/
def laid_math_bits_deBruijn64tab {H : Type} : DataW H := .agg [.lit (.int .u8 0), .lit (.int .u8 1), .lit (.int .u8 56), .lit (.int .u8 2), .lit (.int .u8 57), .lit (.int .u8 49), .lit (.int .u8 28), .lit (.int .u8 3), .lit (.int .u8 61), .lit (.int .u8 58), .lit (.int .u8 42), .lit (.int .u8 50), .lit (.int .u8 38), .lit (.int .u8 29), .lit (.int .u8 17), .lit (.int .u8 4), .lit (.int .u8 62), .lit (.int .u8 47), .lit (.int .u8 59), .lit (.int .u8 36), .lit (.int .u8 45), .lit (.int .u8 43), .lit (.int .u8 51), .lit (.int .u8 22), .lit (.int .u8 53), .lit (.int .u8 39), .lit (.int .u8 33), .lit (.int .u8 30), .lit (.int .u8 24), .lit (.int .u8 18), .lit (.int .u8 12), .lit (.int .u8 5), .lit (.int .u8 63), .lit (.int .u8 55), .lit (.int .u8 48), .lit (.int .u8 27), .lit (.int .u8 60), .lit (.int .u8 41), .lit (.int .u8 37), .lit (.int .u8 16), .lit (.int .u8 46), .lit (.int .u8 35), .lit (.int .u8 44), .lit (.int .u8 21), .lit (.int .u8 52), .lit (.int .u8 32), .lit (.int .u8 23), .lit (.int .u8 11), .lit (.int .u8 54), .lit (.int .u8 26), .lit (.int .u8 40), .lit (.int .u8 15), .lit (.int .u8 34), .lit (.int .u8 20), .lit (.int .u8 31), .lit (.int .u8 10), .lit (.int .u8 25), .lit (.int .u8 14), .lit (.int .u8 19), .lit (.int .u8 9), .lit (.int .u8 13), .lit (.int .u8 8), .lit (.int .u8 7), .lit (.int .u8 6)]
def laid_unicode_utf8_acceptRanges {H : Type} : DataW H := .agg [.agg [.lit (.int .u8 128), .lit (.int .u8 191)], .agg [.lit (.int .u8 160), .lit (.int .u8 191)], .agg [.lit (.int .u8 128), .lit (.int .u8 159)], .agg [.lit (.int .u8 144), .lit (.int .u8 191)], .agg [.lit (.int .u8 128), .lit (.int .u8 143)], .agg [.lit (.int .u8 0), .lit (.int .u8 0)], .agg [.lit (.int .u8 0), .lit (.int .u8 0)], .agg [.lit (.int .u8 0), .lit (.int .u8 0)], .agg [.lit (.int .u8 0), .lit (.int .u8 0)], .agg [.lit (.int .u8 0), .lit (.int .u8 0)], .agg [.lit (.int .u8 0), .lit (.int .u8 0)], .agg [.lit (.int .u8 0), .lit (.int .u8 0)], .agg [.lit (.int .u8 0), .lit (.int .u8 0)], .agg [.lit (.int .u8 0), .lit (.int .u8 0)], .agg [.lit (.int .u8 0), .lit (.int .u8 0)], .agg [.lit (.int .u8 0), .lit (.int .u8 0)]]
/-- One of Go's own tables, pinned by name: the form's constant. -/
def laid_unicode_utf8_first : DataW Unit := Go.Pinned.utf8First
def laid_ablaut_judge_uses {H : Type} : DataW H := .map [(.int .i64 1, .lit (.int .i64 9)), (.int .i64 2, .lit (.int .i64 11)), (.int .i64 3, .lit (.int .i64 7)), (.int .i64 4, .lit (.int .i64 6)), (.int .i64 5, .lit (.int .i64 6)), (.int .i64 6, .lit (.int .i64 17)), (.int .i64 7, .lit (.int .i64 0)), (.int .i64 8, .lit (.int .i64 0)), (.int .i64 20, .lit (.int .i64 3)), (.int .i64 21, .lit (.int .i64 2)), (.int .i64 22, .lit (.int .i64 0)), (.int .i64 23, .lit (.int .i64 0)), (.int .i64 24, .lit (.int .i64 0)), (.int .i64 25, .lit (.int .i64 0))]

/-- 'ablautlaw44.LabAsks': WHATEVER THE INPUT: true; the input reads as it did. -/
def labAsksSpec : ChangeSpec := { name := "labAsks", fn := fun _ => fun
  | [d1, d2, d3] => { results := [.lit (.bool true)], args := [d1, d2, d3] }
  | _ => none }
def labAsksRow : OpenClaim := { program := "ytdnmnhllfflkoaagreatdoor", sum := "40950cc6f0940d61be5e72200b7aae6751d3a11a3fac4b61ab77850696788cae", func := "ablaut/ablautlaw44.LabAsks", spec := "labAsks", inPlace := ["internal/bytealg.IndexByteString", "internal/bytealg.IndexString", "slices.overlaps[int]"], unfollowed := true, recurses := true, named := ["unicode/utf8.first", "unicode/utf8.acceptRanges", "math/bits.deBruijn64tab", "internal/bytealg.MaxLen"], loops := true, plainKeys := false, apart := false, laid := [("math/bits.deBruijn64tab", laid_math_bits_deBruijn64tab), ("unicode/utf8.acceptRanges", laid_unicode_utf8_acceptRanges), ("unicode/utf8.first", laid_unicode_utf8_first)] }
def LabAsksSaid : Prop := labAsksRow.holds Tryz.pinned (OpenSpec.ofChange labAsksSpec)

/-- ITS FALSE NEIGHBOUR: 'it returns false'. Refute it at one input. -/
def labAsksWrong : ChangeSpec := { name := "labAsks", fn := fun _ => fun
  | [d1, d2, d3] => { results := [.lit (.bool false)], args := [d1, d2, d3] }
  | _ => none }
def LabAsksWrongFalsely : Prop := labAsksRow.holds Tryz.pinned (OpenSpec.ofChange labAsksWrong)

/-- 'ablautlaw44.LabFields': WHATEVER THE INPUT: true; the input reads as it did. -/
def labFieldsSpec : ChangeSpec := { name := "labFields", fn := fun _ => fun
  | [d1, d2, d3] => { results := [.lit (.bool true)], args := [d1, d2, d3] }
  | _ => none }
def labFieldsRow : OpenClaim := { program := "ytdnmnhllfflkoaagreatdoor", sum := "40950cc6f0940d61be5e72200b7aae6751d3a11a3fac4b61ab77850696788cae", func := "ablaut/ablautlaw44.LabFields", spec := "labFields", inPlace := ["internal/bytealg.IndexByteString", "internal/bytealg.IndexString", "slices.overlaps[int]"], unfollowed := true, recurses := true, named := ["unicode/utf8.first", "unicode/utf8.acceptRanges", "math/bits.deBruijn64tab", "internal/bytealg.MaxLen"], loops := true, plainKeys := false, apart := false, laid := [("math/bits.deBruijn64tab", laid_math_bits_deBruijn64tab), ("unicode/utf8.acceptRanges", laid_unicode_utf8_acceptRanges), ("unicode/utf8.first", laid_unicode_utf8_first)] }
def LabFieldsSaid : Prop := labFieldsRow.holds Tryz.pinned (OpenSpec.ofChange labFieldsSpec)

/-- ITS FALSE NEIGHBOUR: 'it returns false'. Refute it at one input. -/
def labFieldsWrong : ChangeSpec := { name := "labFields", fn := fun _ => fun
  | [d1, d2, d3] => { results := [.lit (.bool false)], args := [d1, d2, d3] }
  | _ => none }
def LabFieldsWrongFalsely : Prop := labFieldsRow.holds Tryz.pinned (OpenSpec.ofChange labFieldsWrong)

/-- 'ablautlaw44.LabSwaps': WHATEVER THE INPUT: true; the input reads as it did. -/
def labSwapsSpec : ChangeSpec := { name := "labSwaps", fn := fun _ => fun
  | [d1, d2] => { results := [.lit (.bool true)], args := [d1, d2] }
  | _ => none }
def labSwapsRow : OpenClaim := { program := "ytdnmnhllfflkoaagreatdoor", sum := "40950cc6f0940d61be5e72200b7aae6751d3a11a3fac4b61ab77850696788cae", func := "ablaut/ablautlaw44.LabSwaps", spec := "labSwaps", inPlace := ["internal/bytealg.IndexByteString", "internal/bytealg.IndexString", "slices.overlaps[int]"], unfollowed := true, recurses := true, named := ["unicode/utf8.first", "unicode/utf8.acceptRanges", "math/bits.deBruijn64tab", "internal/bytealg.MaxLen"], loops := true, plainKeys := false, apart := false, laid := [("math/bits.deBruijn64tab", laid_math_bits_deBruijn64tab), ("unicode/utf8.acceptRanges", laid_unicode_utf8_acceptRanges), ("unicode/utf8.first", laid_unicode_utf8_first)] }
def LabSwapsSaid : Prop := labSwapsRow.holds Tryz.pinned (OpenSpec.ofChange labSwapsSpec)

/-- ITS FALSE NEIGHBOUR: 'it returns false'. Refute it at one input. -/
def labSwapsWrong : ChangeSpec := { name := "labSwaps", fn := fun _ => fun
  | [d1, d2] => { results := [.lit (.bool false)], args := [d1, d2] }
  | _ => none }
def LabSwapsWrongFalsely : Prop := labSwapsRow.holds Tryz.pinned (OpenSpec.ofChange labSwapsWrong)

/-- 'ablautlaw44.LabNews': WHATEVER THE INPUT: true; the input reads as it did. -/
def labNewsSpec : ChangeSpec := { name := "labNews", fn := fun _ => fun
  | [d1, d2, d3] => { results := [.lit (.bool true)], args := [d1, d2, d3] }
  | _ => none }
def labNewsRow : OpenClaim := { program := "ytdnmnhllfflkoaagreatdoor", sum := "40950cc6f0940d61be5e72200b7aae6751d3a11a3fac4b61ab77850696788cae", func := "ablaut/ablautlaw44.LabNews", spec := "labNews", inPlace := ["internal/bytealg.IndexByteString", "internal/bytealg.IndexString", "slices.overlaps[int]"], unfollowed := true, recurses := true, named := ["unicode/utf8.first", "unicode/utf8.acceptRanges", "math/bits.deBruijn64tab", "internal/bytealg.MaxLen"], loops := true, plainKeys := false, apart := false, laid := [("math/bits.deBruijn64tab", laid_math_bits_deBruijn64tab), ("unicode/utf8.acceptRanges", laid_unicode_utf8_acceptRanges), ("unicode/utf8.first", laid_unicode_utf8_first)] }
def LabNewsSaid : Prop := labNewsRow.holds Tryz.pinned (OpenSpec.ofChange labNewsSpec)

/-- ITS FALSE NEIGHBOUR: 'it returns false'. Refute it at one input. -/
def labNewsWrong : ChangeSpec := { name := "labNews", fn := fun _ => fun
  | [d1, d2, d3] => { results := [.lit (.bool false)], args := [d1, d2, d3] }
  | _ => none }
def LabNewsWrongFalsely : Prop := labNewsRow.holds Tryz.pinned (OpenSpec.ofChange labNewsWrong)

/-- 'ablautlaw44.LabUndoes': WHATEVER THE INPUT: true; the input reads as it did. -/
def labUndoesSpec : ChangeSpec := { name := "labUndoes", fn := fun _ => fun
  | [d1, d2] => { results := [.lit (.bool true)], args := [d1, d2] }
  | _ => none }
def labUndoesRow : OpenClaim := { program := "ytdnmnhllfflkoaagreatdoor", sum := "40950cc6f0940d61be5e72200b7aae6751d3a11a3fac4b61ab77850696788cae", func := "ablaut/ablautlaw44.LabUndoes", spec := "labUndoes", inPlace := ["internal/bytealg.IndexByteString", "internal/bytealg.IndexString", "slices.overlaps[int]"], unfollowed := true, recurses := true, named := ["unicode/utf8.first", "unicode/utf8.acceptRanges", "math/bits.deBruijn64tab", "internal/bytealg.MaxLen"], loops := true, plainKeys := false, apart := false, laid := [("math/bits.deBruijn64tab", laid_math_bits_deBruijn64tab), ("unicode/utf8.acceptRanges", laid_unicode_utf8_acceptRanges), ("unicode/utf8.first", laid_unicode_utf8_first)] }
def LabUndoesSaid : Prop := labUndoesRow.holds Tryz.pinned (OpenSpec.ofChange labUndoesSpec)

/-- ITS FALSE NEIGHBOUR: 'it returns false'. Refute it at one input. -/
def labUndoesWrong : ChangeSpec := { name := "labUndoes", fn := fun _ => fun
  | [d1, d2] => { results := [.lit (.bool false)], args := [d1, d2] }
  | _ => none }
def LabUndoesWrongFalsely : Prop := labUndoesRow.holds Tryz.pinned (OpenSpec.ofChange labUndoesWrong)

/-- 'ablautlaw44.LabKeeps': WHATEVER THE INPUT: true; the input reads as it did. -/
def labKeepsSpec : ChangeSpec := { name := "labKeeps", fn := fun _ => fun
  | [d1, d2] => { results := [.lit (.bool true)], args := [d1, d2] }
  | _ => none }
def labKeepsRow : OpenClaim := { program := "ytdnmnhllfflkoaagreatdoor", sum := "40950cc6f0940d61be5e72200b7aae6751d3a11a3fac4b61ab77850696788cae", func := "ablaut/ablautlaw44.LabKeeps", spec := "labKeeps", inPlace := ["internal/bytealg.IndexByteString", "internal/bytealg.IndexString", "slices.overlaps[int]"], unfollowed := true, recurses := true, named := ["unicode/utf8.first", "unicode/utf8.acceptRanges", "math/bits.deBruijn64tab", "internal/bytealg.MaxLen"], loops := true, plainKeys := false, apart := false, laid := [("math/bits.deBruijn64tab", laid_math_bits_deBruijn64tab), ("unicode/utf8.acceptRanges", laid_unicode_utf8_acceptRanges), ("unicode/utf8.first", laid_unicode_utf8_first)] }
def LabKeepsSaid : Prop := labKeepsRow.holds Tryz.pinned (OpenSpec.ofChange labKeepsSpec)

/-- ITS FALSE NEIGHBOUR: 'it returns false'. Refute it at one input. -/
def labKeepsWrong : ChangeSpec := { name := "labKeeps", fn := fun _ => fun
  | [d1, d2] => { results := [.lit (.bool false)], args := [d1, d2] }
  | _ => none }
def LabKeepsWrongFalsely : Prop := labKeepsRow.holds Tryz.pinned (OpenSpec.ofChange labKeepsWrong)

/-- 'ablautlaw44.LabDoes': WHATEVER THE INPUT: true; the input reads as it did. -/
def labDoesSpec : ChangeSpec := { name := "labDoes", fn := fun _ => fun
  | [d1, d2, d3] => { results := [.lit (.bool true)], args := [d1, d2, d3] }
  | _ => none }
def labDoesRow : OpenClaim := { program := "ytdnmnhllfflkoaagreatdoor", sum := "40950cc6f0940d61be5e72200b7aae6751d3a11a3fac4b61ab77850696788cae", func := "ablaut/ablautlaw44.LabDoes", spec := "labDoes", inPlace := ["internal/bytealg.IndexByteString", "internal/bytealg.IndexString", "slices.overlaps[int]"], unfollowed := true, recurses := true, named := ["unicode/utf8.first", "unicode/utf8.acceptRanges", "math/bits.deBruijn64tab", "internal/bytealg.MaxLen"], loops := true, plainKeys := false, apart := false, laid := [("math/bits.deBruijn64tab", laid_math_bits_deBruijn64tab), ("unicode/utf8.acceptRanges", laid_unicode_utf8_acceptRanges), ("unicode/utf8.first", laid_unicode_utf8_first)] }
def LabDoesSaid : Prop := labDoesRow.holds Tryz.pinned (OpenSpec.ofChange labDoesSpec)

/-- ITS FALSE NEIGHBOUR: 'it returns false'. Refute it at one input. -/
def labDoesWrong : ChangeSpec := { name := "labDoes", fn := fun _ => fun
  | [d1, d2, d3] => { results := [.lit (.bool false)], args := [d1, d2, d3] }
  | _ => none }
def LabDoesWrongFalsely : Prop := labDoesRow.holds Tryz.pinned (OpenSpec.ofChange labDoesWrong)

/-- 'ablautlaw44.LabNil': WHATEVER THE INPUT: true; the input reads as it did. -/
def labNilSpec : ChangeSpec := { name := "labNil", fn := fun _ => fun
  | [d] => { results := [.lit (.bool true)], args := [d] }
  | _ => none }
def labNilRow : OpenClaim := { program := "ytdnmnhllfflkoaagreatdoor", sum := "40950cc6f0940d61be5e72200b7aae6751d3a11a3fac4b61ab77850696788cae", func := "ablaut/ablautlaw44.LabNil", spec := "labNil", inPlace := ["slices.overlaps[int]", "internal/bytealg.IndexByteString", "internal/bytealg.IndexString"], unfollowed := true, recurses := true, named := ["unicode/utf8.first", "unicode/utf8.acceptRanges", "math/bits.deBruijn64tab", "internal/bytealg.MaxLen"], loops := true, plainKeys := false, apart := false, laid := [("math/bits.deBruijn64tab", laid_math_bits_deBruijn64tab), ("unicode/utf8.acceptRanges", laid_unicode_utf8_acceptRanges), ("unicode/utf8.first", laid_unicode_utf8_first)] }
def LabNilSaid : Prop := labNilRow.holds Tryz.pinned (OpenSpec.ofChange labNilSpec)

/-- ITS FALSE NEIGHBOUR: 'it returns false'. Refute it at one input. -/
def labNilWrong : ChangeSpec := { name := "labNil", fn := fun _ => fun
  | [d] => { results := [.lit (.bool false)], args := [d] }
  | _ => none }
def LabNilWrongFalsely : Prop := labNilRow.holds Tryz.pinned (OpenSpec.ofChange labNilWrong)

/-- 'ablautlaw46.JudgePlays': WHATEVER THE INPUT: true; the input reads as it did. -/
def judgePlaysSpec : ChangeSpec := { name := "judgePlays", fn := fun _ => fun
  | [d1, d2, d3] => { results := [.lit (.bool true)], args := [d1, d2, d3] }
  | _ => none }
def judgePlaysRow : OpenClaim := { program := "ytdnmnhllfflkoaagreatdoor", sum := "40950cc6f0940d61be5e72200b7aae6751d3a11a3fac4b61ab77850696788cae", func := "ablaut/ablautlaw46.JudgePlays", spec := "judgePlays", inPlace := ["internal/bytealg.IndexByteString", "internal/bytealg.IndexString", "slices.overlaps[int]", "slices.overlaps[ablaut/api.Sound]"], unfollowed := true, recurses := true, named := ["unicode/utf8.first", "unicode/utf8.acceptRanges", "math/bits.deBruijn64tab", "ablaut/judge.uses", "internal/bytealg.MaxLen"], loops := true, plainKeys := false, apart := false, laid := [("math/bits.deBruijn64tab", laid_math_bits_deBruijn64tab), ("unicode/utf8.acceptRanges", laid_unicode_utf8_acceptRanges), ("ablaut/judge.uses", laid_ablaut_judge_uses), ("unicode/utf8.first", laid_unicode_utf8_first)] }
def JudgePlaysSaid : Prop := judgePlaysRow.holds Tryz.pinned (OpenSpec.ofChange judgePlaysSpec)

/-- ITS FALSE NEIGHBOUR: 'it returns false'. Refute it at one input. -/
def judgePlaysWrong : ChangeSpec := { name := "judgePlays", fn := fun _ => fun
  | [d1, d2, d3] => { results := [.lit (.bool false)], args := [d1, d2, d3] }
  | _ => none }
def JudgePlaysWrongFalsely : Prop := judgePlaysRow.holds Tryz.pinned (OpenSpec.ofChange judgePlaysWrong)

/-- 'ablautlaw46.JudgeLooks': WHATEVER THE INPUT: true; the input reads as it did. -/
def judgeLooksSpec : ChangeSpec := { name := "judgeLooks", fn := fun _ => fun
  | [d] => { results := [.lit (.bool true)], args := [d] }
  | _ => none }
def judgeLooksRow : OpenClaim := { program := "ytdnmnhllfflkoaagreatdoor", sum := "40950cc6f0940d61be5e72200b7aae6751d3a11a3fac4b61ab77850696788cae", func := "ablaut/ablautlaw46.JudgeLooks", spec := "judgeLooks", inPlace := ["internal/bytealg.IndexByteString", "internal/bytealg.IndexString", "slices.overlaps[int]", "slices.overlaps[ablaut/api.Sound]"], unfollowed := true, recurses := true, named := ["unicode/utf8.first", "unicode/utf8.acceptRanges", "math/bits.deBruijn64tab", "ablaut/judge.uses", "internal/bytealg.MaxLen"], loops := true, plainKeys := false, apart := false, laid := [("math/bits.deBruijn64tab", laid_math_bits_deBruijn64tab), ("unicode/utf8.acceptRanges", laid_unicode_utf8_acceptRanges), ("ablaut/judge.uses", laid_ablaut_judge_uses), ("unicode/utf8.first", laid_unicode_utf8_first)] }
def JudgeLooksSaid : Prop := judgeLooksRow.holds Tryz.pinned (OpenSpec.ofChange judgeLooksSpec)

/-- ITS FALSE NEIGHBOUR: 'it returns false'. Refute it at one input. -/
def judgeLooksWrong : ChangeSpec := { name := "judgeLooks", fn := fun _ => fun
  | [d] => { results := [.lit (.bool false)], args := [d] }
  | _ => none }
def JudgeLooksWrongFalsely : Prop := judgeLooksRow.holds Tryz.pinned (OpenSpec.ofChange judgeLooksWrong)

/-- 'ablautlaw46.JudgeSames': WHATEVER THE INPUT: true; the input reads as it did. -/
def judgeSamesSpec : ChangeSpec := { name := "judgeSames", fn := fun _ => fun
  | [d1, d2] => { results := [.lit (.bool true)], args := [d1, d2] }
  | _ => none }
def judgeSamesRow : OpenClaim := { program := "ytdnmnhllfflkoaagreatdoor", sum := "40950cc6f0940d61be5e72200b7aae6751d3a11a3fac4b61ab77850696788cae", func := "ablaut/ablautlaw46.JudgeSames", spec := "judgeSames", inPlace := ["internal/bytealg.IndexByteString", "internal/bytealg.IndexString", "slices.overlaps[int]", "slices.overlaps[ablaut/api.Sound]"], unfollowed := true, recurses := true, named := ["unicode/utf8.first", "unicode/utf8.acceptRanges", "math/bits.deBruijn64tab", "ablaut/judge.uses", "internal/bytealg.MaxLen"], plainKeys := false, apart := false, laid := [("math/bits.deBruijn64tab", laid_math_bits_deBruijn64tab), ("unicode/utf8.acceptRanges", laid_unicode_utf8_acceptRanges), ("ablaut/judge.uses", laid_ablaut_judge_uses), ("unicode/utf8.first", laid_unicode_utf8_first)] }
def JudgeSamesSaid : Prop := judgeSamesRow.holds Tryz.pinned (OpenSpec.ofChange judgeSamesSpec)

/-- ITS FALSE NEIGHBOUR: 'it returns false'. Refute it at one input. -/
def judgeSamesWrong : ChangeSpec := { name := "judgeSames", fn := fun _ => fun
  | [d1, d2] => { results := [.lit (.bool false)], args := [d1, d2] }
  | _ => none }
def JudgeSamesWrongFalsely : Prop := judgeSamesRow.holds Tryz.pinned (OpenSpec.ofChange judgeSamesWrong)

/-- 'ablautlaw46.JudgeMirror': WHATEVER THE INPUT: true; the input reads as it did. -/
def judgeMirrorSpec : ChangeSpec := { name := "judgeMirror", fn := fun _ => fun
  | [d1, d2] => { results := [.lit (.bool true)], args := [d1, d2] }
  | _ => none }
def judgeMirrorRow : OpenClaim := { program := "ytdnmnhllfflkoaagreatdoor", sum := "40950cc6f0940d61be5e72200b7aae6751d3a11a3fac4b61ab77850696788cae", func := "ablaut/ablautlaw46.JudgeMirror", spec := "judgeMirror", inPlace := ["internal/bytealg.IndexByteString", "internal/bytealg.IndexString", "slices.overlaps[int]", "slices.overlaps[ablaut/api.Sound]"], unfollowed := true, recurses := true, named := ["unicode/utf8.first", "unicode/utf8.acceptRanges", "math/bits.deBruijn64tab", "ablaut/judge.uses", "internal/bytealg.MaxLen"], loops := true, plainKeys := false, apart := false, laid := [("math/bits.deBruijn64tab", laid_math_bits_deBruijn64tab), ("unicode/utf8.acceptRanges", laid_unicode_utf8_acceptRanges), ("ablaut/judge.uses", laid_ablaut_judge_uses), ("unicode/utf8.first", laid_unicode_utf8_first)] }
def JudgeMirrorSaid : Prop := judgeMirrorRow.holds Tryz.pinned (OpenSpec.ofChange judgeMirrorSpec)

/-- ITS FALSE NEIGHBOUR: 'it returns false'. Refute it at one input. -/
def judgeMirrorWrong : ChangeSpec := { name := "judgeMirror", fn := fun _ => fun
  | [d1, d2] => { results := [.lit (.bool false)], args := [d1, d2] }
  | _ => none }
def JudgeMirrorWrongFalsely : Prop := judgeMirrorRow.holds Tryz.pinned (OpenSpec.ofChange judgeMirrorWrong)

/- THE SECOND FORM. 'bulk': how many values and letters a reading holds, each counted each time it is reached (what is shared counts as often as it is met; a slice's spare places count too). A statement '..UptoSaid' is the law's where the arguments, and the package variables that the reading takes, are together of bulk at most 1048576: NARROWER than '..Said'. Prove '..Said' where nothing that the law and all that it calls make is longer than what came in: it says more and counts as full. Else prove '..UptoSaid'. A law counts once. -/
mutual
def uptoBulk {H : Type} : DataW H → Nat
  | .lit (.string bytes) => bytes.length + 1
  | .lit _ => 1
  | .nil => 1
  | .ptr d => uptoBulk d + 1
  | .slice elems spare => uptoBulkAll elems + uptoBulkAll spare + 1
  | .agg parts => uptoBulkAll parts + 1
  | .iface _ d => uptoBulk d + 1
  | .map entries => uptoBulkEntries entries + 1
  | .held _ => 1
def uptoBulkAll {H : Type} : List (DataW H) → Nat
  | [] => 0
  | d :: r => uptoBulk d + uptoBulkAll r
def uptoBulkEntries {H : Type} : List (Lit × DataW H) → Nat
  | [] => 0
  | x :: r => uptoBulkEntry x + uptoBulkEntries r
def uptoBulkEntry {H : Type} : Lit × DataW H → Nat
  | (.string bytes, d) => bytes.length + uptoBulk d + 1
  | (_, d) => uptoBulk d + 1
 end
def uptoSmall : (H : Type) → List (DataW H) → Bool := fun _ ds => decide (uptoBulkAll ds ≤ 1048576)
def OpenSpec.upto (s : _root_.Go.ChangeSpec) : _root_.Go.OpenSpec := { _root_.Go.OpenSpec.ofChange s with cond := some uptoSmall }

/-- 'ablautlaw44.LabAsks', WHERE WHAT IT READS IS OF BULK AT MOST 1048576: true; the input reads as it did. -/
def labAsksUptoRow : OpenClaim := { program := "ytdnmnhllfflkoaagreatdoor", sum := "40950cc6f0940d61be5e72200b7aae6751d3a11a3fac4b61ab77850696788cae", func := "ablaut/ablautlaw44.LabAsks", spec := "labAsks", inPlace := ["internal/bytealg.IndexByteString", "internal/bytealg.IndexString", "slices.overlaps[int]"], unfollowed := true, recurses := true, named := ["unicode/utf8.first", "unicode/utf8.acceptRanges", "math/bits.deBruijn64tab", "internal/bytealg.MaxLen"], loops := true, plainKeys := false, apart := false, laid := [("math/bits.deBruijn64tab", laid_math_bits_deBruijn64tab), ("unicode/utf8.acceptRanges", laid_unicode_utf8_acceptRanges), ("unicode/utf8.first", laid_unicode_utf8_first)], narrowed := true }
def LabAsksUptoSaid : Prop := labAsksUptoRow.holds Tryz.pinned (OpenSpec.upto labAsksSpec)

/-- 'ablautlaw44.LabFields', WHERE WHAT IT READS IS OF BULK AT MOST 1048576: true; the input reads as it did. -/
def labFieldsUptoRow : OpenClaim := { program := "ytdnmnhllfflkoaagreatdoor", sum := "40950cc6f0940d61be5e72200b7aae6751d3a11a3fac4b61ab77850696788cae", func := "ablaut/ablautlaw44.LabFields", spec := "labFields", inPlace := ["internal/bytealg.IndexByteString", "internal/bytealg.IndexString", "slices.overlaps[int]"], unfollowed := true, recurses := true, named := ["unicode/utf8.first", "unicode/utf8.acceptRanges", "math/bits.deBruijn64tab", "internal/bytealg.MaxLen"], loops := true, plainKeys := false, apart := false, laid := [("math/bits.deBruijn64tab", laid_math_bits_deBruijn64tab), ("unicode/utf8.acceptRanges", laid_unicode_utf8_acceptRanges), ("unicode/utf8.first", laid_unicode_utf8_first)], narrowed := true }
def LabFieldsUptoSaid : Prop := labFieldsUptoRow.holds Tryz.pinned (OpenSpec.upto labFieldsSpec)

/-- 'ablautlaw44.LabSwaps', WHERE WHAT IT READS IS OF BULK AT MOST 1048576: true; the input reads as it did. -/
def labSwapsUptoRow : OpenClaim := { program := "ytdnmnhllfflkoaagreatdoor", sum := "40950cc6f0940d61be5e72200b7aae6751d3a11a3fac4b61ab77850696788cae", func := "ablaut/ablautlaw44.LabSwaps", spec := "labSwaps", inPlace := ["internal/bytealg.IndexByteString", "internal/bytealg.IndexString", "slices.overlaps[int]"], unfollowed := true, recurses := true, named := ["unicode/utf8.first", "unicode/utf8.acceptRanges", "math/bits.deBruijn64tab", "internal/bytealg.MaxLen"], loops := true, plainKeys := false, apart := false, laid := [("math/bits.deBruijn64tab", laid_math_bits_deBruijn64tab), ("unicode/utf8.acceptRanges", laid_unicode_utf8_acceptRanges), ("unicode/utf8.first", laid_unicode_utf8_first)], narrowed := true }
def LabSwapsUptoSaid : Prop := labSwapsUptoRow.holds Tryz.pinned (OpenSpec.upto labSwapsSpec)

/-- 'ablautlaw44.LabNews', WHERE WHAT IT READS IS OF BULK AT MOST 1048576: true; the input reads as it did. -/
def labNewsUptoRow : OpenClaim := { program := "ytdnmnhllfflkoaagreatdoor", sum := "40950cc6f0940d61be5e72200b7aae6751d3a11a3fac4b61ab77850696788cae", func := "ablaut/ablautlaw44.LabNews", spec := "labNews", inPlace := ["internal/bytealg.IndexByteString", "internal/bytealg.IndexString", "slices.overlaps[int]"], unfollowed := true, recurses := true, named := ["unicode/utf8.first", "unicode/utf8.acceptRanges", "math/bits.deBruijn64tab", "internal/bytealg.MaxLen"], loops := true, plainKeys := false, apart := false, laid := [("math/bits.deBruijn64tab", laid_math_bits_deBruijn64tab), ("unicode/utf8.acceptRanges", laid_unicode_utf8_acceptRanges), ("unicode/utf8.first", laid_unicode_utf8_first)], narrowed := true }
def LabNewsUptoSaid : Prop := labNewsUptoRow.holds Tryz.pinned (OpenSpec.upto labNewsSpec)

/-- 'ablautlaw44.LabUndoes', WHERE WHAT IT READS IS OF BULK AT MOST 1048576: true; the input reads as it did. -/
def labUndoesUptoRow : OpenClaim := { program := "ytdnmnhllfflkoaagreatdoor", sum := "40950cc6f0940d61be5e72200b7aae6751d3a11a3fac4b61ab77850696788cae", func := "ablaut/ablautlaw44.LabUndoes", spec := "labUndoes", inPlace := ["internal/bytealg.IndexByteString", "internal/bytealg.IndexString", "slices.overlaps[int]"], unfollowed := true, recurses := true, named := ["unicode/utf8.first", "unicode/utf8.acceptRanges", "math/bits.deBruijn64tab", "internal/bytealg.MaxLen"], loops := true, plainKeys := false, apart := false, laid := [("math/bits.deBruijn64tab", laid_math_bits_deBruijn64tab), ("unicode/utf8.acceptRanges", laid_unicode_utf8_acceptRanges), ("unicode/utf8.first", laid_unicode_utf8_first)], narrowed := true }
def LabUndoesUptoSaid : Prop := labUndoesUptoRow.holds Tryz.pinned (OpenSpec.upto labUndoesSpec)

/-- 'ablautlaw44.LabKeeps', WHERE WHAT IT READS IS OF BULK AT MOST 1048576: true; the input reads as it did. -/
def labKeepsUptoRow : OpenClaim := { program := "ytdnmnhllfflkoaagreatdoor", sum := "40950cc6f0940d61be5e72200b7aae6751d3a11a3fac4b61ab77850696788cae", func := "ablaut/ablautlaw44.LabKeeps", spec := "labKeeps", inPlace := ["internal/bytealg.IndexByteString", "internal/bytealg.IndexString", "slices.overlaps[int]"], unfollowed := true, recurses := true, named := ["unicode/utf8.first", "unicode/utf8.acceptRanges", "math/bits.deBruijn64tab", "internal/bytealg.MaxLen"], loops := true, plainKeys := false, apart := false, laid := [("math/bits.deBruijn64tab", laid_math_bits_deBruijn64tab), ("unicode/utf8.acceptRanges", laid_unicode_utf8_acceptRanges), ("unicode/utf8.first", laid_unicode_utf8_first)], narrowed := true }
def LabKeepsUptoSaid : Prop := labKeepsUptoRow.holds Tryz.pinned (OpenSpec.upto labKeepsSpec)

/-- 'ablautlaw44.LabDoes', WHERE WHAT IT READS IS OF BULK AT MOST 1048576: true; the input reads as it did. -/
def labDoesUptoRow : OpenClaim := { program := "ytdnmnhllfflkoaagreatdoor", sum := "40950cc6f0940d61be5e72200b7aae6751d3a11a3fac4b61ab77850696788cae", func := "ablaut/ablautlaw44.LabDoes", spec := "labDoes", inPlace := ["internal/bytealg.IndexByteString", "internal/bytealg.IndexString", "slices.overlaps[int]"], unfollowed := true, recurses := true, named := ["unicode/utf8.first", "unicode/utf8.acceptRanges", "math/bits.deBruijn64tab", "internal/bytealg.MaxLen"], loops := true, plainKeys := false, apart := false, laid := [("math/bits.deBruijn64tab", laid_math_bits_deBruijn64tab), ("unicode/utf8.acceptRanges", laid_unicode_utf8_acceptRanges), ("unicode/utf8.first", laid_unicode_utf8_first)], narrowed := true }
def LabDoesUptoSaid : Prop := labDoesUptoRow.holds Tryz.pinned (OpenSpec.upto labDoesSpec)

/-- 'ablautlaw44.LabNil', WHERE WHAT IT READS IS OF BULK AT MOST 1048576: true; the input reads as it did. -/
def labNilUptoRow : OpenClaim := { program := "ytdnmnhllfflkoaagreatdoor", sum := "40950cc6f0940d61be5e72200b7aae6751d3a11a3fac4b61ab77850696788cae", func := "ablaut/ablautlaw44.LabNil", spec := "labNil", inPlace := ["slices.overlaps[int]", "internal/bytealg.IndexByteString", "internal/bytealg.IndexString"], unfollowed := true, recurses := true, named := ["unicode/utf8.first", "unicode/utf8.acceptRanges", "math/bits.deBruijn64tab", "internal/bytealg.MaxLen"], loops := true, plainKeys := false, apart := false, laid := [("math/bits.deBruijn64tab", laid_math_bits_deBruijn64tab), ("unicode/utf8.acceptRanges", laid_unicode_utf8_acceptRanges), ("unicode/utf8.first", laid_unicode_utf8_first)], narrowed := true }
def LabNilUptoSaid : Prop := labNilUptoRow.holds Tryz.pinned (OpenSpec.upto labNilSpec)

/-- 'ablautlaw46.JudgePlays', WHERE WHAT IT READS IS OF BULK AT MOST 1048576: true; the input reads as it did. -/
def judgePlaysUptoRow : OpenClaim := { program := "ytdnmnhllfflkoaagreatdoor", sum := "40950cc6f0940d61be5e72200b7aae6751d3a11a3fac4b61ab77850696788cae", func := "ablaut/ablautlaw46.JudgePlays", spec := "judgePlays", inPlace := ["internal/bytealg.IndexByteString", "internal/bytealg.IndexString", "slices.overlaps[int]", "slices.overlaps[ablaut/api.Sound]"], unfollowed := true, recurses := true, named := ["unicode/utf8.first", "unicode/utf8.acceptRanges", "math/bits.deBruijn64tab", "ablaut/judge.uses", "internal/bytealg.MaxLen"], loops := true, plainKeys := false, apart := false, laid := [("math/bits.deBruijn64tab", laid_math_bits_deBruijn64tab), ("unicode/utf8.acceptRanges", laid_unicode_utf8_acceptRanges), ("ablaut/judge.uses", laid_ablaut_judge_uses), ("unicode/utf8.first", laid_unicode_utf8_first)], narrowed := true }
def JudgePlaysUptoSaid : Prop := judgePlaysUptoRow.holds Tryz.pinned (OpenSpec.upto judgePlaysSpec)

/-- 'ablautlaw46.JudgeLooks', WHERE WHAT IT READS IS OF BULK AT MOST 1048576: true; the input reads as it did. -/
def judgeLooksUptoRow : OpenClaim := { program := "ytdnmnhllfflkoaagreatdoor", sum := "40950cc6f0940d61be5e72200b7aae6751d3a11a3fac4b61ab77850696788cae", func := "ablaut/ablautlaw46.JudgeLooks", spec := "judgeLooks", inPlace := ["internal/bytealg.IndexByteString", "internal/bytealg.IndexString", "slices.overlaps[int]", "slices.overlaps[ablaut/api.Sound]"], unfollowed := true, recurses := true, named := ["unicode/utf8.first", "unicode/utf8.acceptRanges", "math/bits.deBruijn64tab", "ablaut/judge.uses", "internal/bytealg.MaxLen"], loops := true, plainKeys := false, apart := false, laid := [("math/bits.deBruijn64tab", laid_math_bits_deBruijn64tab), ("unicode/utf8.acceptRanges", laid_unicode_utf8_acceptRanges), ("ablaut/judge.uses", laid_ablaut_judge_uses), ("unicode/utf8.first", laid_unicode_utf8_first)], narrowed := true }
def JudgeLooksUptoSaid : Prop := judgeLooksUptoRow.holds Tryz.pinned (OpenSpec.upto judgeLooksSpec)

/-- 'ablautlaw46.JudgeSames', WHERE WHAT IT READS IS OF BULK AT MOST 1048576: true; the input reads as it did. -/
def judgeSamesUptoRow : OpenClaim := { program := "ytdnmnhllfflkoaagreatdoor", sum := "40950cc6f0940d61be5e72200b7aae6751d3a11a3fac4b61ab77850696788cae", func := "ablaut/ablautlaw46.JudgeSames", spec := "judgeSames", inPlace := ["internal/bytealg.IndexByteString", "internal/bytealg.IndexString", "slices.overlaps[int]", "slices.overlaps[ablaut/api.Sound]"], unfollowed := true, recurses := true, named := ["unicode/utf8.first", "unicode/utf8.acceptRanges", "math/bits.deBruijn64tab", "ablaut/judge.uses", "internal/bytealg.MaxLen"], plainKeys := false, apart := false, laid := [("math/bits.deBruijn64tab", laid_math_bits_deBruijn64tab), ("unicode/utf8.acceptRanges", laid_unicode_utf8_acceptRanges), ("ablaut/judge.uses", laid_ablaut_judge_uses), ("unicode/utf8.first", laid_unicode_utf8_first)], narrowed := true }
def JudgeSamesUptoSaid : Prop := judgeSamesUptoRow.holds Tryz.pinned (OpenSpec.upto judgeSamesSpec)

/-- 'ablautlaw46.JudgeMirror', WHERE WHAT IT READS IS OF BULK AT MOST 1048576: true; the input reads as it did. -/
def judgeMirrorUptoRow : OpenClaim := { program := "ytdnmnhllfflkoaagreatdoor", sum := "40950cc6f0940d61be5e72200b7aae6751d3a11a3fac4b61ab77850696788cae", func := "ablaut/ablautlaw46.JudgeMirror", spec := "judgeMirror", inPlace := ["internal/bytealg.IndexByteString", "internal/bytealg.IndexString", "slices.overlaps[int]", "slices.overlaps[ablaut/api.Sound]"], unfollowed := true, recurses := true, named := ["unicode/utf8.first", "unicode/utf8.acceptRanges", "math/bits.deBruijn64tab", "ablaut/judge.uses", "internal/bytealg.MaxLen"], loops := true, plainKeys := false, apart := false, laid := [("math/bits.deBruijn64tab", laid_math_bits_deBruijn64tab), ("unicode/utf8.acceptRanges", laid_unicode_utf8_acceptRanges), ("ablaut/judge.uses", laid_ablaut_judge_uses), ("unicode/utf8.first", laid_unicode_utf8_first)], narrowed := true }
def JudgeMirrorUptoSaid : Prop := judgeMirrorUptoRow.holds Tryz.pinned (OpenSpec.upto judgeMirrorSpec)

end Rows
end Go.Proofs.YtdnmnhllfflkoaaGreatDoor
