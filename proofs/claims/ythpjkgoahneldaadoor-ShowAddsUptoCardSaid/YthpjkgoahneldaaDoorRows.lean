/-
  NARROWER THAN 'FOR EVERY INPUT', by the rows' own cells (each row's printed sentence says how): BreaksWhere: laid · BreaksLines: laid · BreaksLocal: laid · BreaksWhole: laid · WordAll: laid · WordAt: laid · WordSteps: laid · WordKnown: laid · WordCuts: laid · ShowText: laid · ShowWide: laid · ShowCut: laid · ShowPlain: laid · ShowBytes: laid · ShowKnown: laid · ShowAdds: laid.
  DERIVED. THE GIVEN ROWS OF THIS SEAT. 16 by the template 'for every input the law returns true; each argument reads behind the call as it read before'; 0 by the template 'total and deterministic' (their statements: YthpjkgoahneldaaDoorTotals.lean).
  GIVEN WITH THE SEED: the statements are not yours to turn. If you find one false, say at which input.
  Laid BY PROGRAM, IN A SANDBOX (cutbox-rows.mjs): the forced cells as the released guide's own fill.sh prints them over the translation 49f26187ec0aa168… (all of the seat's roots in one cut). By AI agents, Wed Nov 11 2026. No macro, syntax, notation, axiom, sorry.
-/
import Derived.Test.YthpjkgoahneldaaDoorChecked
import GoSem.PinnedTables
import GoSem.Claim
import GoSem.ClaimJoined
import GoSem.ClaimMapViews
import Derived.JoinedTies
import Derived.KernelRfl
namespace Go.Proofs.YthpjkgoahneldaaDoor
/- THE CELL 'sum', in the pinned program and in every row, IS THE sha256 OF THE DUMP (.gsa) THAT YthpjkgoahneldaaDoorProg.lean LOADS. Nothing in Lean hashes anything: it is a label: what it is worth is what the hold of that sum in a sandbox is worth. -/
noncomputable def Tryd.pinned : Pinned := { name := "ythpjkgoahneldaadoor", sum := "49f26187ec0aa1685ca98a88b35758c1aece5e072c814f57b9d7cd9d40ce7e10", checked := Tryd.checked }
namespace Rows
def none {H : Type} : Left H := { results := [], args := [] }

/- WHAT THE LISTED PACKAGE-LEVEL VARIABLES READ AS WHEN THE CALL BEGINS. Each datum BY PROGRAM (the guide's laid-datum.mjs) off the statement by which the dump's own 'gosem.cut.vars' lays the variable. In a bare row this is a premise. The card (YthpjkgoahneldaaDoorCards.lean) ties it to the program's text. -/
def laid_unicode_utf8_acceptRanges {H : Type} : DataW H := .agg [.agg [.lit (.int .u8 128), .lit (.int .u8 191)], .agg [.lit (.int .u8 160), .lit (.int .u8 191)], .agg [.lit (.int .u8 128), .lit (.int .u8 159)], .agg [.lit (.int .u8 144), .lit (.int .u8 191)], .agg [.lit (.int .u8 128), .lit (.int .u8 143)], .agg [.lit (.int .u8 0), .lit (.int .u8 0)], .agg [.lit (.int .u8 0), .lit (.int .u8 0)], .agg [.lit (.int .u8 0), .lit (.int .u8 0)], .agg [.lit (.int .u8 0), .lit (.int .u8 0)], .agg [.lit (.int .u8 0), .lit (.int .u8 0)], .agg [.lit (.int .u8 0), .lit (.int .u8 0)], .agg [.lit (.int .u8 0), .lit (.int .u8 0)], .agg [.lit (.int .u8 0), .lit (.int .u8 0)], .agg [.lit (.int .u8 0), .lit (.int .u8 0)], .agg [.lit (.int .u8 0), .lit (.int .u8 0)], .agg [.lit (.int .u8 0), .lit (.int .u8 0)]]
/-- One of Go's own tables, pinned by name: the form's constant. -/
def laid_unicode_utf8_first : DataW Unit := Go.Pinned.utf8First
def laid_math_bits_deBruijn32tab {H : Type} : DataW H := .agg [.lit (.int .u8 0), .lit (.int .u8 1), .lit (.int .u8 28), .lit (.int .u8 2), .lit (.int .u8 29), .lit (.int .u8 14), .lit (.int .u8 24), .lit (.int .u8 3), .lit (.int .u8 30), .lit (.int .u8 22), .lit (.int .u8 20), .lit (.int .u8 15), .lit (.int .u8 25), .lit (.int .u8 17), .lit (.int .u8 4), .lit (.int .u8 8), .lit (.int .u8 31), .lit (.int .u8 27), .lit (.int .u8 13), .lit (.int .u8 23), .lit (.int .u8 21), .lit (.int .u8 19), .lit (.int .u8 16), .lit (.int .u8 7), .lit (.int .u8 26), .lit (.int .u8 12), .lit (.int .u8 18), .lit (.int .u8 6), .lit (.int .u8 11), .lit (.int .u8 5), .lit (.int .u8 10), .lit (.int .u8 9)]
def laid_math_bits_deBruijn64tab {H : Type} : DataW H := .agg [.lit (.int .u8 0), .lit (.int .u8 1), .lit (.int .u8 56), .lit (.int .u8 2), .lit (.int .u8 57), .lit (.int .u8 49), .lit (.int .u8 28), .lit (.int .u8 3), .lit (.int .u8 61), .lit (.int .u8 58), .lit (.int .u8 42), .lit (.int .u8 50), .lit (.int .u8 38), .lit (.int .u8 29), .lit (.int .u8 17), .lit (.int .u8 4), .lit (.int .u8 62), .lit (.int .u8 47), .lit (.int .u8 59), .lit (.int .u8 36), .lit (.int .u8 45), .lit (.int .u8 43), .lit (.int .u8 51), .lit (.int .u8 22), .lit (.int .u8 53), .lit (.int .u8 39), .lit (.int .u8 33), .lit (.int .u8 30), .lit (.int .u8 24), .lit (.int .u8 18), .lit (.int .u8 12), .lit (.int .u8 5), .lit (.int .u8 63), .lit (.int .u8 55), .lit (.int .u8 48), .lit (.int .u8 27), .lit (.int .u8 60), .lit (.int .u8 41), .lit (.int .u8 37), .lit (.int .u8 16), .lit (.int .u8 46), .lit (.int .u8 35), .lit (.int .u8 44), .lit (.int .u8 21), .lit (.int .u8 52), .lit (.int .u8 32), .lit (.int .u8 23), .lit (.int .u8 11), .lit (.int .u8 54), .lit (.int .u8 26), .lit (.int .u8 40), .lit (.int .u8 15), .lit (.int .u8 34), .lit (.int .u8 20), .lit (.int .u8 31), .lit (.int .u8 10), .lit (.int .u8 25), .lit (.int .u8 14), .lit (.int .u8 19), .lit (.int .u8 9), .lit (.int .u8 13), .lit (.int .u8 8), .lit (.int .u8 7), .lit (.int .u8 6)]
def laid_internal_strconv_uint64pow10 {H : Type} : DataW H := .agg [.lit (.int .u64 1), .lit (.int .u64 10), .lit (.int .u64 100), .lit (.int .u64 1000), .lit (.int .u64 10000), .lit (.int .u64 100000), .lit (.int .u64 1000000), .lit (.int .u64 10000000), .lit (.int .u64 100000000), .lit (.int .u64 1000000000), .lit (.int .u64 10000000000), .lit (.int .u64 100000000000), .lit (.int .u64 1000000000000), .lit (.int .u64 10000000000000), .lit (.int .u64 100000000000000), .lit (.int .u64 1000000000000000), .lit (.int .u64 10000000000000000), .lit (.int .u64 100000000000000000), .lit (.int .u64 1000000000000000000), .lit (.int .u64 10000000000000000000)]

/-- 'shuttlelaw13.BreaksWhere': WHATEVER THE INPUT: true; the input reads as it did. -/
def breaksWhereSpec : ChangeSpec := { name := "breaksWhere", fn := fun _ => fun
  | [d] => { results := [.lit (.bool true)], args := [d] }
  | _ => none }
def breaksWhereRow : OpenClaim := { program := "ythpjkgoahneldaadoor", sum := "49f26187ec0aa1685ca98a88b35758c1aece5e072c814f57b9d7cd9d40ce7e10", func := "shuttle/shuttlelaw13.BreaksWhere", spec := "breaksWhere", unfollowed := true, recurses := true, named := ["unicode/utf8.first", "unicode/utf8.acceptRanges"], apart := false, laid := [("unicode/utf8.acceptRanges", laid_unicode_utf8_acceptRanges), ("unicode/utf8.first", laid_unicode_utf8_first)] }
def BreaksWhereSaid : Prop := breaksWhereRow.holds Tryd.pinned (OpenSpec.ofChange breaksWhereSpec)

/-- ITS FALSE NEIGHBOUR: 'it returns false'. Refute it at one input. -/
def breaksWhereWrong : ChangeSpec := { name := "breaksWhere", fn := fun _ => fun
  | [d] => { results := [.lit (.bool false)], args := [d] }
  | _ => none }
def BreaksWhereWrongFalsely : Prop := breaksWhereRow.holds Tryd.pinned (OpenSpec.ofChange breaksWhereWrong)

/-- 'shuttlelaw13.BreaksLines': WHATEVER THE INPUT: true; the input reads as it did. -/
def breaksLinesSpec : ChangeSpec := { name := "breaksLines", fn := fun _ => fun
  | [d1, d2] => { results := [.lit (.bool true)], args := [d1, d2] }
  | _ => none }
def breaksLinesRow : OpenClaim := { program := "ythpjkgoahneldaadoor", sum := "49f26187ec0aa1685ca98a88b35758c1aece5e072c814f57b9d7cd9d40ce7e10", func := "shuttle/shuttlelaw13.BreaksLines", spec := "breaksLines", unfollowed := true, recurses := true, named := ["unicode/utf8.first", "unicode/utf8.acceptRanges"], apart := false, laid := [("unicode/utf8.acceptRanges", laid_unicode_utf8_acceptRanges), ("unicode/utf8.first", laid_unicode_utf8_first)] }
def BreaksLinesSaid : Prop := breaksLinesRow.holds Tryd.pinned (OpenSpec.ofChange breaksLinesSpec)

/-- ITS FALSE NEIGHBOUR: 'it returns false'. Refute it at one input. -/
def breaksLinesWrong : ChangeSpec := { name := "breaksLines", fn := fun _ => fun
  | [d1, d2] => { results := [.lit (.bool false)], args := [d1, d2] }
  | _ => none }
def BreaksLinesWrongFalsely : Prop := breaksLinesRow.holds Tryd.pinned (OpenSpec.ofChange breaksLinesWrong)

/-- 'shuttlelaw13.BreaksLocal': WHATEVER THE INPUT: true; the input reads as it did. -/
def breaksLocalSpec : ChangeSpec := { name := "breaksLocal", fn := fun _ => fun
  | [d1, d2] => { results := [.lit (.bool true)], args := [d1, d2] }
  | _ => none }
def breaksLocalRow : OpenClaim := { program := "ythpjkgoahneldaadoor", sum := "49f26187ec0aa1685ca98a88b35758c1aece5e072c814f57b9d7cd9d40ce7e10", func := "shuttle/shuttlelaw13.BreaksLocal", spec := "breaksLocal", unfollowed := true, recurses := true, named := ["unicode/utf8.first", "unicode/utf8.acceptRanges"], apart := false, laid := [("unicode/utf8.acceptRanges", laid_unicode_utf8_acceptRanges), ("unicode/utf8.first", laid_unicode_utf8_first)] }
def BreaksLocalSaid : Prop := breaksLocalRow.holds Tryd.pinned (OpenSpec.ofChange breaksLocalSpec)

/-- ITS FALSE NEIGHBOUR: 'it returns false'. Refute it at one input. -/
def breaksLocalWrong : ChangeSpec := { name := "breaksLocal", fn := fun _ => fun
  | [d1, d2] => { results := [.lit (.bool false)], args := [d1, d2] }
  | _ => none }
def BreaksLocalWrongFalsely : Prop := breaksLocalRow.holds Tryd.pinned (OpenSpec.ofChange breaksLocalWrong)

/-- 'shuttlelaw13.BreaksWhole': WHATEVER THE INPUT: true; the input reads as it did. -/
def breaksWholeSpec : ChangeSpec := { name := "breaksWhole", fn := fun _ => fun
  | [d] => { results := [.lit (.bool true)], args := [d] }
  | _ => none }
def breaksWholeRow : OpenClaim := { program := "ythpjkgoahneldaadoor", sum := "49f26187ec0aa1685ca98a88b35758c1aece5e072c814f57b9d7cd9d40ce7e10", func := "shuttle/shuttlelaw13.BreaksWhole", spec := "breaksWhole", unfollowed := true, recurses := true, named := ["unicode/utf8.first", "unicode/utf8.acceptRanges"], apart := false, laid := [("unicode/utf8.acceptRanges", laid_unicode_utf8_acceptRanges), ("unicode/utf8.first", laid_unicode_utf8_first)] }
def BreaksWholeSaid : Prop := breaksWholeRow.holds Tryd.pinned (OpenSpec.ofChange breaksWholeSpec)

/-- ITS FALSE NEIGHBOUR: 'it returns false'. Refute it at one input. -/
def breaksWholeWrong : ChangeSpec := { name := "breaksWhole", fn := fun _ => fun
  | [d] => { results := [.lit (.bool false)], args := [d] }
  | _ => none }
def BreaksWholeWrongFalsely : Prop := breaksWholeRow.holds Tryd.pinned (OpenSpec.ofChange breaksWholeWrong)

/-- 'shuttlelaw12.WordAll': WHATEVER THE INPUT: true; the input reads as it did. -/
def wordAllSpec : ChangeSpec := { name := "wordAll", fn := fun _ => fun
  | [d1, d2] => { results := [.lit (.bool true)], args := [d1, d2] }
  | _ => none }
def wordAllRow : OpenClaim := { program := "ythpjkgoahneldaadoor", sum := "49f26187ec0aa1685ca98a88b35758c1aece5e072c814f57b9d7cd9d40ce7e10", func := "shuttle/shuttlelaw12.WordAll", spec := "wordAll", unfollowed := true, recurses := true, named := ["unicode/utf8.first", "unicode/utf8.acceptRanges"], apart := false, laid := [("unicode/utf8.acceptRanges", laid_unicode_utf8_acceptRanges), ("unicode/utf8.first", laid_unicode_utf8_first)] }
def WordAllSaid : Prop := wordAllRow.holds Tryd.pinned (OpenSpec.ofChange wordAllSpec)

/-- ITS FALSE NEIGHBOUR: 'it returns false'. Refute it at one input. -/
def wordAllWrong : ChangeSpec := { name := "wordAll", fn := fun _ => fun
  | [d1, d2] => { results := [.lit (.bool false)], args := [d1, d2] }
  | _ => none }
def WordAllWrongFalsely : Prop := wordAllRow.holds Tryd.pinned (OpenSpec.ofChange wordAllWrong)

/-- 'shuttlelaw12.WordAt': WHATEVER THE INPUT: true; the input reads as it did. -/
def wordAtSpec : ChangeSpec := { name := "wordAt", fn := fun _ => fun
  | [d1, d2] => { results := [.lit (.bool true)], args := [d1, d2] }
  | _ => none }
def wordAtRow : OpenClaim := { program := "ythpjkgoahneldaadoor", sum := "49f26187ec0aa1685ca98a88b35758c1aece5e072c814f57b9d7cd9d40ce7e10", func := "shuttle/shuttlelaw12.WordAt", spec := "wordAt", unfollowed := true, recurses := true, named := ["unicode/utf8.first", "unicode/utf8.acceptRanges"], apart := false, laid := [("unicode/utf8.acceptRanges", laid_unicode_utf8_acceptRanges), ("unicode/utf8.first", laid_unicode_utf8_first)] }
def WordAtSaid : Prop := wordAtRow.holds Tryd.pinned (OpenSpec.ofChange wordAtSpec)

/-- ITS FALSE NEIGHBOUR: 'it returns false'. Refute it at one input. -/
def wordAtWrong : ChangeSpec := { name := "wordAt", fn := fun _ => fun
  | [d1, d2] => { results := [.lit (.bool false)], args := [d1, d2] }
  | _ => none }
def WordAtWrongFalsely : Prop := wordAtRow.holds Tryd.pinned (OpenSpec.ofChange wordAtWrong)

/-- 'shuttlelaw12.WordSteps': WHATEVER THE INPUT: true; the input reads as it did. -/
def wordStepsSpec : ChangeSpec := { name := "wordSteps", fn := fun _ => fun
  | [d1, d2] => { results := [.lit (.bool true)], args := [d1, d2] }
  | _ => none }
def wordStepsRow : OpenClaim := { program := "ythpjkgoahneldaadoor", sum := "49f26187ec0aa1685ca98a88b35758c1aece5e072c814f57b9d7cd9d40ce7e10", func := "shuttle/shuttlelaw12.WordSteps", spec := "wordSteps", unfollowed := true, recurses := true, named := ["unicode/utf8.first", "unicode/utf8.acceptRanges"], apart := false, laid := [("unicode/utf8.acceptRanges", laid_unicode_utf8_acceptRanges), ("unicode/utf8.first", laid_unicode_utf8_first)] }
def WordStepsSaid : Prop := wordStepsRow.holds Tryd.pinned (OpenSpec.ofChange wordStepsSpec)

/-- ITS FALSE NEIGHBOUR: 'it returns false'. Refute it at one input. -/
def wordStepsWrong : ChangeSpec := { name := "wordSteps", fn := fun _ => fun
  | [d1, d2] => { results := [.lit (.bool false)], args := [d1, d2] }
  | _ => none }
def WordStepsWrongFalsely : Prop := wordStepsRow.holds Tryd.pinned (OpenSpec.ofChange wordStepsWrong)

/-- 'shuttlelaw12.WordKnown': WHATEVER THE INPUT: true; the input reads as it did. -/
def wordKnownSpec : ChangeSpec := { name := "wordKnown", fn := fun _ => fun
  | [] => { results := [.lit (.bool true)], args := [] }
  | _ => none }
def wordKnownRow : OpenClaim := { program := "ythpjkgoahneldaadoor", sum := "49f26187ec0aa1685ca98a88b35758c1aece5e072c814f57b9d7cd9d40ce7e10", func := "shuttle/shuttlelaw12.WordKnown", spec := "wordKnown", unfollowed := true, recurses := true, named := ["unicode/utf8.first", "unicode/utf8.acceptRanges"], apart := false, laid := [("unicode/utf8.acceptRanges", laid_unicode_utf8_acceptRanges), ("unicode/utf8.first", laid_unicode_utf8_first)] }
def WordKnownSaid : Prop := wordKnownRow.holds Tryd.pinned (OpenSpec.ofChange wordKnownSpec)

/-- ITS FALSE NEIGHBOUR: 'it returns false'. Refute it at one input. -/
def wordKnownWrong : ChangeSpec := { name := "wordKnown", fn := fun _ => fun
  | [] => { results := [.lit (.bool false)], args := [] }
  | _ => none }
def WordKnownWrongFalsely : Prop := wordKnownRow.holds Tryd.pinned (OpenSpec.ofChange wordKnownWrong)

/-- 'shuttlelaw12.WordCuts': WHATEVER THE INPUT: true; the input reads as it did. -/
def wordCutsSpec : ChangeSpec := { name := "wordCuts", fn := fun _ => fun
  | [d1, d2] => { results := [.lit (.bool true)], args := [d1, d2] }
  | _ => none }
def wordCutsRow : OpenClaim := { program := "ythpjkgoahneldaadoor", sum := "49f26187ec0aa1685ca98a88b35758c1aece5e072c814f57b9d7cd9d40ce7e10", func := "shuttle/shuttlelaw12.WordCuts", spec := "wordCuts", unfollowed := true, recurses := true, named := ["unicode/utf8.first", "unicode/utf8.acceptRanges"], apart := false, laid := [("unicode/utf8.acceptRanges", laid_unicode_utf8_acceptRanges), ("unicode/utf8.first", laid_unicode_utf8_first)] }
def WordCutsSaid : Prop := wordCutsRow.holds Tryd.pinned (OpenSpec.ofChange wordCutsSpec)

/-- ITS FALSE NEIGHBOUR: 'it returns false'. Refute it at one input. -/
def wordCutsWrong : ChangeSpec := { name := "wordCuts", fn := fun _ => fun
  | [d1, d2] => { results := [.lit (.bool false)], args := [d1, d2] }
  | _ => none }
def WordCutsWrongFalsely : Prop := wordCutsRow.holds Tryd.pinned (OpenSpec.ofChange wordCutsWrong)

/-- 'shuttlelaw06.ShowText': WHATEVER THE INPUT: true; the input reads as it did. -/
def showTextSpec : ChangeSpec := { name := "showText", fn := fun _ => fun
  | [d1, d2, d3] => { results := [.lit (.bool true)], args := [d1, d2, d3] }
  | _ => none }
def showTextRow : OpenClaim := { program := "ythpjkgoahneldaadoor", sum := "49f26187ec0aa1685ca98a88b35758c1aece5e072c814f57b9d7cd9d40ce7e10", func := "shuttle/shuttlelaw06.ShowText", spec := "showText", inPlace := ["internal/abi.NoEscape", "internal/bytealg.MakeNoZero"], unfollowed := true, recurses := true, named := ["unicode/utf8.first", "unicode/utf8.acceptRanges", "internal/strconv.uint64pow10", "math/bits.deBruijn32tab", "math/bits.deBruijn64tab"], apart := false, laid := [("math/bits.deBruijn32tab", laid_math_bits_deBruijn32tab), ("math/bits.deBruijn64tab", laid_math_bits_deBruijn64tab), ("internal/strconv.uint64pow10", laid_internal_strconv_uint64pow10), ("unicode/utf8.acceptRanges", laid_unicode_utf8_acceptRanges), ("unicode/utf8.first", laid_unicode_utf8_first)] }
def ShowTextSaid : Prop := showTextRow.holds Tryd.pinned (OpenSpec.ofChange showTextSpec)

/-- ITS FALSE NEIGHBOUR: 'it returns false'. Refute it at one input. -/
def showTextWrong : ChangeSpec := { name := "showText", fn := fun _ => fun
  | [d1, d2, d3] => { results := [.lit (.bool false)], args := [d1, d2, d3] }
  | _ => none }
def ShowTextWrongFalsely : Prop := showTextRow.holds Tryd.pinned (OpenSpec.ofChange showTextWrong)

/-- 'shuttlelaw06.ShowWide': WHATEVER THE INPUT: true; the input reads as it did. -/
def showWideSpec : ChangeSpec := { name := "showWide", fn := fun _ => fun
  | [d1, d2, d3] => { results := [.lit (.bool true)], args := [d1, d2, d3] }
  | _ => none }
def showWideRow : OpenClaim := { program := "ythpjkgoahneldaadoor", sum := "49f26187ec0aa1685ca98a88b35758c1aece5e072c814f57b9d7cd9d40ce7e10", func := "shuttle/shuttlelaw06.ShowWide", spec := "showWide", inPlace := ["internal/abi.NoEscape", "internal/bytealg.MakeNoZero"], unfollowed := true, recurses := true, named := ["unicode/utf8.first", "unicode/utf8.acceptRanges", "internal/strconv.uint64pow10", "math/bits.deBruijn32tab", "math/bits.deBruijn64tab"], apart := false, laid := [("math/bits.deBruijn32tab", laid_math_bits_deBruijn32tab), ("math/bits.deBruijn64tab", laid_math_bits_deBruijn64tab), ("internal/strconv.uint64pow10", laid_internal_strconv_uint64pow10), ("unicode/utf8.acceptRanges", laid_unicode_utf8_acceptRanges), ("unicode/utf8.first", laid_unicode_utf8_first)] }
def ShowWideSaid : Prop := showWideRow.holds Tryd.pinned (OpenSpec.ofChange showWideSpec)

/-- ITS FALSE NEIGHBOUR: 'it returns false'. Refute it at one input. -/
def showWideWrong : ChangeSpec := { name := "showWide", fn := fun _ => fun
  | [d1, d2, d3] => { results := [.lit (.bool false)], args := [d1, d2, d3] }
  | _ => none }
def ShowWideWrongFalsely : Prop := showWideRow.holds Tryd.pinned (OpenSpec.ofChange showWideWrong)

/-- 'shuttlelaw06.ShowCut': WHATEVER THE INPUT: true; the input reads as it did. -/
def showCutSpec : ChangeSpec := { name := "showCut", fn := fun _ => fun
  | [d1, d2, d3] => { results := [.lit (.bool true)], args := [d1, d2, d3] }
  | _ => none }
def showCutRow : OpenClaim := { program := "ythpjkgoahneldaadoor", sum := "49f26187ec0aa1685ca98a88b35758c1aece5e072c814f57b9d7cd9d40ce7e10", func := "shuttle/shuttlelaw06.ShowCut", spec := "showCut", inPlace := ["internal/abi.NoEscape", "internal/bytealg.MakeNoZero"], unfollowed := true, recurses := true, named := ["unicode/utf8.first", "unicode/utf8.acceptRanges", "internal/strconv.uint64pow10", "math/bits.deBruijn32tab", "math/bits.deBruijn64tab"], apart := false, laid := [("math/bits.deBruijn32tab", laid_math_bits_deBruijn32tab), ("math/bits.deBruijn64tab", laid_math_bits_deBruijn64tab), ("internal/strconv.uint64pow10", laid_internal_strconv_uint64pow10), ("unicode/utf8.acceptRanges", laid_unicode_utf8_acceptRanges), ("unicode/utf8.first", laid_unicode_utf8_first)] }
def ShowCutSaid : Prop := showCutRow.holds Tryd.pinned (OpenSpec.ofChange showCutSpec)

/-- ITS FALSE NEIGHBOUR: 'it returns false'. Refute it at one input. -/
def showCutWrong : ChangeSpec := { name := "showCut", fn := fun _ => fun
  | [d1, d2, d3] => { results := [.lit (.bool false)], args := [d1, d2, d3] }
  | _ => none }
def ShowCutWrongFalsely : Prop := showCutRow.holds Tryd.pinned (OpenSpec.ofChange showCutWrong)

/-- 'shuttlelaw06.ShowPlain': WHATEVER THE INPUT: true; the input reads as it did. -/
def showPlainSpec : ChangeSpec := { name := "showPlain", fn := fun _ => fun
  | [d] => { results := [.lit (.bool true)], args := [d] }
  | _ => none }
def showPlainRow : OpenClaim := { program := "ythpjkgoahneldaadoor", sum := "49f26187ec0aa1685ca98a88b35758c1aece5e072c814f57b9d7cd9d40ce7e10", func := "shuttle/shuttlelaw06.ShowPlain", spec := "showPlain", inPlace := ["internal/abi.NoEscape", "internal/bytealg.MakeNoZero"], unfollowed := true, recurses := true, named := ["unicode/utf8.first", "unicode/utf8.acceptRanges", "internal/strconv.uint64pow10", "math/bits.deBruijn32tab", "math/bits.deBruijn64tab"], apart := false, laid := [("math/bits.deBruijn32tab", laid_math_bits_deBruijn32tab), ("math/bits.deBruijn64tab", laid_math_bits_deBruijn64tab), ("internal/strconv.uint64pow10", laid_internal_strconv_uint64pow10), ("unicode/utf8.acceptRanges", laid_unicode_utf8_acceptRanges), ("unicode/utf8.first", laid_unicode_utf8_first)] }
def ShowPlainSaid : Prop := showPlainRow.holds Tryd.pinned (OpenSpec.ofChange showPlainSpec)

/-- ITS FALSE NEIGHBOUR: 'it returns false'. Refute it at one input. -/
def showPlainWrong : ChangeSpec := { name := "showPlain", fn := fun _ => fun
  | [d] => { results := [.lit (.bool false)], args := [d] }
  | _ => none }
def ShowPlainWrongFalsely : Prop := showPlainRow.holds Tryd.pinned (OpenSpec.ofChange showPlainWrong)

/-- 'shuttlelaw06.ShowBytes': WHATEVER THE INPUT: true; the input reads as it did. -/
def showBytesSpec : ChangeSpec := { name := "showBytes", fn := fun _ => fun
  | [d1, d2, d3] => { results := [.lit (.bool true)], args := [d1, d2, d3] }
  | _ => none }
def showBytesRow : OpenClaim := { program := "ythpjkgoahneldaadoor", sum := "49f26187ec0aa1685ca98a88b35758c1aece5e072c814f57b9d7cd9d40ce7e10", func := "shuttle/shuttlelaw06.ShowBytes", spec := "showBytes", inPlace := ["internal/abi.NoEscape", "internal/bytealg.MakeNoZero"], unfollowed := true, recurses := true, named := ["unicode/utf8.first", "unicode/utf8.acceptRanges", "internal/strconv.uint64pow10", "math/bits.deBruijn32tab", "math/bits.deBruijn64tab"], apart := false, laid := [("math/bits.deBruijn32tab", laid_math_bits_deBruijn32tab), ("math/bits.deBruijn64tab", laid_math_bits_deBruijn64tab), ("internal/strconv.uint64pow10", laid_internal_strconv_uint64pow10), ("unicode/utf8.acceptRanges", laid_unicode_utf8_acceptRanges), ("unicode/utf8.first", laid_unicode_utf8_first)] }
def ShowBytesSaid : Prop := showBytesRow.holds Tryd.pinned (OpenSpec.ofChange showBytesSpec)

/-- ITS FALSE NEIGHBOUR: 'it returns false'. Refute it at one input. -/
def showBytesWrong : ChangeSpec := { name := "showBytes", fn := fun _ => fun
  | [d1, d2, d3] => { results := [.lit (.bool false)], args := [d1, d2, d3] }
  | _ => none }
def ShowBytesWrongFalsely : Prop := showBytesRow.holds Tryd.pinned (OpenSpec.ofChange showBytesWrong)

/-- 'shuttlelaw06.ShowKnown': WHATEVER THE INPUT: true; the input reads as it did. -/
def showKnownSpec : ChangeSpec := { name := "showKnown", fn := fun _ => fun
  | [] => { results := [.lit (.bool true)], args := [] }
  | _ => none }
def showKnownRow : OpenClaim := { program := "ythpjkgoahneldaadoor", sum := "49f26187ec0aa1685ca98a88b35758c1aece5e072c814f57b9d7cd9d40ce7e10", func := "shuttle/shuttlelaw06.ShowKnown", spec := "showKnown", inPlace := ["internal/abi.NoEscape", "internal/bytealg.MakeNoZero"], unfollowed := true, recurses := true, named := ["unicode/utf8.first", "unicode/utf8.acceptRanges", "internal/strconv.uint64pow10", "math/bits.deBruijn32tab", "math/bits.deBruijn64tab"], apart := false, laid := [("math/bits.deBruijn32tab", laid_math_bits_deBruijn32tab), ("math/bits.deBruijn64tab", laid_math_bits_deBruijn64tab), ("internal/strconv.uint64pow10", laid_internal_strconv_uint64pow10), ("unicode/utf8.acceptRanges", laid_unicode_utf8_acceptRanges), ("unicode/utf8.first", laid_unicode_utf8_first)] }
def ShowKnownSaid : Prop := showKnownRow.holds Tryd.pinned (OpenSpec.ofChange showKnownSpec)

/-- ITS FALSE NEIGHBOUR: 'it returns false'. Refute it at one input. -/
def showKnownWrong : ChangeSpec := { name := "showKnown", fn := fun _ => fun
  | [] => { results := [.lit (.bool false)], args := [] }
  | _ => none }
def ShowKnownWrongFalsely : Prop := showKnownRow.holds Tryd.pinned (OpenSpec.ofChange showKnownWrong)

/-- 'shuttlelaw06.ShowAdds': WHATEVER THE INPUT: true; the input reads as it did. -/
def showAddsSpec : ChangeSpec := { name := "showAdds", fn := fun _ => fun
  | [d1, d2, d3, d4] => { results := [.lit (.bool true)], args := [d1, d2, d3, d4] }
  | _ => none }
def showAddsRow : OpenClaim := { program := "ythpjkgoahneldaadoor", sum := "49f26187ec0aa1685ca98a88b35758c1aece5e072c814f57b9d7cd9d40ce7e10", func := "shuttle/shuttlelaw06.ShowAdds", spec := "showAdds", inPlace := ["internal/abi.NoEscape", "internal/bytealg.MakeNoZero"], unfollowed := true, recurses := true, named := ["unicode/utf8.first", "unicode/utf8.acceptRanges", "internal/strconv.uint64pow10", "math/bits.deBruijn32tab", "math/bits.deBruijn64tab"], apart := false, laid := [("math/bits.deBruijn32tab", laid_math_bits_deBruijn32tab), ("math/bits.deBruijn64tab", laid_math_bits_deBruijn64tab), ("internal/strconv.uint64pow10", laid_internal_strconv_uint64pow10), ("unicode/utf8.acceptRanges", laid_unicode_utf8_acceptRanges), ("unicode/utf8.first", laid_unicode_utf8_first)] }
def ShowAddsSaid : Prop := showAddsRow.holds Tryd.pinned (OpenSpec.ofChange showAddsSpec)

/-- ITS FALSE NEIGHBOUR: 'it returns false'. Refute it at one input. -/
def showAddsWrong : ChangeSpec := { name := "showAdds", fn := fun _ => fun
  | [d1, d2, d3, d4] => { results := [.lit (.bool false)], args := [d1, d2, d3, d4] }
  | _ => none }
def ShowAddsWrongFalsely : Prop := showAddsRow.holds Tryd.pinned (OpenSpec.ofChange showAddsWrong)

/- THE SECOND FORM. 'bulk': how many values and letters a reading holds, each counted each time it is reached (what is shared counts as often as it is met; a slice's spare places count too). A statement '..UptoSaid' is the law's where the arguments, and the package variables that the reading takes, are together of bulk at most 1048576: NARROWER than '..Said'. Prove '..Said' where nothing that the law and all that it calls make is longer than what came in: it says more and counts as full. Else prove '..UptoSaid'. A law counts once. -/
mutual
def uptoBulk {H : Type} : DataW H → Nat
  | .lit (.string bytes) => bytes.length + 1
  | .lit _ => 1
  | .nil => 1
  | .ptr d => uptoBulk d + 1
  | .slice elems spare => uptoBulkAll elems + uptoBulkAll spare + 1
  | .agg parts => uptoBulkAll parts + 1
  | .iface _ d => uptoBulk d + 1
  | .map entries => uptoBulkEntries entries + 1
  | .held _ => 1
def uptoBulkAll {H : Type} : List (DataW H) → Nat
  | [] => 0
  | d :: r => uptoBulk d + uptoBulkAll r
def uptoBulkEntries {H : Type} : List (Lit × DataW H) → Nat
  | [] => 0
  | x :: r => uptoBulkEntry x + uptoBulkEntries r
def uptoBulkEntry {H : Type} : Lit × DataW H → Nat
  | (.string bytes, d) => bytes.length + uptoBulk d + 1
  | (_, d) => uptoBulk d + 1
 end
def uptoSmall : (H : Type) → List (DataW H) → Bool := fun _ ds => decide (uptoBulkAll ds ≤ 1048576)
def OpenSpec.upto (s : _root_.Go.ChangeSpec) : _root_.Go.OpenSpec := { _root_.Go.OpenSpec.ofChange s with cond := some uptoSmall }

/-- 'shuttlelaw13.BreaksWhere', WHERE WHAT IT READS IS OF BULK AT MOST 1048576: true; the input reads as it did. -/
def breaksWhereUptoRow : OpenClaim := { program := "ythpjkgoahneldaadoor", sum := "49f26187ec0aa1685ca98a88b35758c1aece5e072c814f57b9d7cd9d40ce7e10", func := "shuttle/shuttlelaw13.BreaksWhere", spec := "breaksWhere", unfollowed := true, recurses := true, named := ["unicode/utf8.first", "unicode/utf8.acceptRanges"], apart := false, laid := [("unicode/utf8.acceptRanges", laid_unicode_utf8_acceptRanges), ("unicode/utf8.first", laid_unicode_utf8_first)], narrowed := true }
def BreaksWhereUptoSaid : Prop := breaksWhereUptoRow.holds Tryd.pinned (OpenSpec.upto breaksWhereSpec)

/-- 'shuttlelaw13.BreaksLines', WHERE WHAT IT READS IS OF BULK AT MOST 1048576: true; the input reads as it did. -/
def breaksLinesUptoRow : OpenClaim := { program := "ythpjkgoahneldaadoor", sum := "49f26187ec0aa1685ca98a88b35758c1aece5e072c814f57b9d7cd9d40ce7e10", func := "shuttle/shuttlelaw13.BreaksLines", spec := "breaksLines", unfollowed := true, recurses := true, named := ["unicode/utf8.first", "unicode/utf8.acceptRanges"], apart := false, laid := [("unicode/utf8.acceptRanges", laid_unicode_utf8_acceptRanges), ("unicode/utf8.first", laid_unicode_utf8_first)], narrowed := true }
def BreaksLinesUptoSaid : Prop := breaksLinesUptoRow.holds Tryd.pinned (OpenSpec.upto breaksLinesSpec)

/-- 'shuttlelaw13.BreaksLocal', WHERE WHAT IT READS IS OF BULK AT MOST 1048576: true; the input reads as it did. -/
def breaksLocalUptoRow : OpenClaim := { program := "ythpjkgoahneldaadoor", sum := "49f26187ec0aa1685ca98a88b35758c1aece5e072c814f57b9d7cd9d40ce7e10", func := "shuttle/shuttlelaw13.BreaksLocal", spec := "breaksLocal", unfollowed := true, recurses := true, named := ["unicode/utf8.first", "unicode/utf8.acceptRanges"], apart := false, laid := [("unicode/utf8.acceptRanges", laid_unicode_utf8_acceptRanges), ("unicode/utf8.first", laid_unicode_utf8_first)], narrowed := true }
def BreaksLocalUptoSaid : Prop := breaksLocalUptoRow.holds Tryd.pinned (OpenSpec.upto breaksLocalSpec)

/-- 'shuttlelaw13.BreaksWhole', WHERE WHAT IT READS IS OF BULK AT MOST 1048576: true; the input reads as it did. -/
def breaksWholeUptoRow : OpenClaim := { program := "ythpjkgoahneldaadoor", sum := "49f26187ec0aa1685ca98a88b35758c1aece5e072c814f57b9d7cd9d40ce7e10", func := "shuttle/shuttlelaw13.BreaksWhole", spec := "breaksWhole", unfollowed := true, recurses := true, named := ["unicode/utf8.first", "unicode/utf8.acceptRanges"], apart := false, laid := [("unicode/utf8.acceptRanges", laid_unicode_utf8_acceptRanges), ("unicode/utf8.first", laid_unicode_utf8_first)], narrowed := true }
def BreaksWholeUptoSaid : Prop := breaksWholeUptoRow.holds Tryd.pinned (OpenSpec.upto breaksWholeSpec)

/-- 'shuttlelaw12.WordAll', WHERE WHAT IT READS IS OF BULK AT MOST 1048576: true; the input reads as it did. -/
def wordAllUptoRow : OpenClaim := { program := "ythpjkgoahneldaadoor", sum := "49f26187ec0aa1685ca98a88b35758c1aece5e072c814f57b9d7cd9d40ce7e10", func := "shuttle/shuttlelaw12.WordAll", spec := "wordAll", unfollowed := true, recurses := true, named := ["unicode/utf8.first", "unicode/utf8.acceptRanges"], apart := false, laid := [("unicode/utf8.acceptRanges", laid_unicode_utf8_acceptRanges), ("unicode/utf8.first", laid_unicode_utf8_first)], narrowed := true }
def WordAllUptoSaid : Prop := wordAllUptoRow.holds Tryd.pinned (OpenSpec.upto wordAllSpec)

/-- 'shuttlelaw12.WordAt', WHERE WHAT IT READS IS OF BULK AT MOST 1048576: true; the input reads as it did. -/
def wordAtUptoRow : OpenClaim := { program := "ythpjkgoahneldaadoor", sum := "49f26187ec0aa1685ca98a88b35758c1aece5e072c814f57b9d7cd9d40ce7e10", func := "shuttle/shuttlelaw12.WordAt", spec := "wordAt", unfollowed := true, recurses := true, named := ["unicode/utf8.first", "unicode/utf8.acceptRanges"], apart := false, laid := [("unicode/utf8.acceptRanges", laid_unicode_utf8_acceptRanges), ("unicode/utf8.first", laid_unicode_utf8_first)], narrowed := true }
def WordAtUptoSaid : Prop := wordAtUptoRow.holds Tryd.pinned (OpenSpec.upto wordAtSpec)

/-- 'shuttlelaw12.WordSteps', WHERE WHAT IT READS IS OF BULK AT MOST 1048576: true; the input reads as it did. -/
def wordStepsUptoRow : OpenClaim := { program := "ythpjkgoahneldaadoor", sum := "49f26187ec0aa1685ca98a88b35758c1aece5e072c814f57b9d7cd9d40ce7e10", func := "shuttle/shuttlelaw12.WordSteps", spec := "wordSteps", unfollowed := true, recurses := true, named := ["unicode/utf8.first", "unicode/utf8.acceptRanges"], apart := false, laid := [("unicode/utf8.acceptRanges", laid_unicode_utf8_acceptRanges), ("unicode/utf8.first", laid_unicode_utf8_first)], narrowed := true }
def WordStepsUptoSaid : Prop := wordStepsUptoRow.holds Tryd.pinned (OpenSpec.upto wordStepsSpec)

/-- 'shuttlelaw12.WordKnown', WHERE WHAT IT READS IS OF BULK AT MOST 1048576: true; the input reads as it did. -/
def wordKnownUptoRow : OpenClaim := { program := "ythpjkgoahneldaadoor", sum := "49f26187ec0aa1685ca98a88b35758c1aece5e072c814f57b9d7cd9d40ce7e10", func := "shuttle/shuttlelaw12.WordKnown", spec := "wordKnown", unfollowed := true, recurses := true, named := ["unicode/utf8.first", "unicode/utf8.acceptRanges"], apart := false, laid := [("unicode/utf8.acceptRanges", laid_unicode_utf8_acceptRanges), ("unicode/utf8.first", laid_unicode_utf8_first)], narrowed := true }
def WordKnownUptoSaid : Prop := wordKnownUptoRow.holds Tryd.pinned (OpenSpec.upto wordKnownSpec)

/-- 'shuttlelaw12.WordCuts', WHERE WHAT IT READS IS OF BULK AT MOST 1048576: true; the input reads as it did. -/
def wordCutsUptoRow : OpenClaim := { program := "ythpjkgoahneldaadoor", sum := "49f26187ec0aa1685ca98a88b35758c1aece5e072c814f57b9d7cd9d40ce7e10", func := "shuttle/shuttlelaw12.WordCuts", spec := "wordCuts", unfollowed := true, recurses := true, named := ["unicode/utf8.first", "unicode/utf8.acceptRanges"], apart := false, laid := [("unicode/utf8.acceptRanges", laid_unicode_utf8_acceptRanges), ("unicode/utf8.first", laid_unicode_utf8_first)], narrowed := true }
def WordCutsUptoSaid : Prop := wordCutsUptoRow.holds Tryd.pinned (OpenSpec.upto wordCutsSpec)

/-- 'shuttlelaw06.ShowText', WHERE WHAT IT READS IS OF BULK AT MOST 1048576: true; the input reads as it did. -/
def showTextUptoRow : OpenClaim := { program := "ythpjkgoahneldaadoor", sum := "49f26187ec0aa1685ca98a88b35758c1aece5e072c814f57b9d7cd9d40ce7e10", func := "shuttle/shuttlelaw06.ShowText", spec := "showText", inPlace := ["internal/abi.NoEscape", "internal/bytealg.MakeNoZero"], unfollowed := true, recurses := true, named := ["unicode/utf8.first", "unicode/utf8.acceptRanges", "internal/strconv.uint64pow10", "math/bits.deBruijn32tab", "math/bits.deBruijn64tab"], apart := false, laid := [("math/bits.deBruijn32tab", laid_math_bits_deBruijn32tab), ("math/bits.deBruijn64tab", laid_math_bits_deBruijn64tab), ("internal/strconv.uint64pow10", laid_internal_strconv_uint64pow10), ("unicode/utf8.acceptRanges", laid_unicode_utf8_acceptRanges), ("unicode/utf8.first", laid_unicode_utf8_first)], narrowed := true }
def ShowTextUptoSaid : Prop := showTextUptoRow.holds Tryd.pinned (OpenSpec.upto showTextSpec)

/-- 'shuttlelaw06.ShowWide', WHERE WHAT IT READS IS OF BULK AT MOST 1048576: true; the input reads as it did. -/
def showWideUptoRow : OpenClaim := { program := "ythpjkgoahneldaadoor", sum := "49f26187ec0aa1685ca98a88b35758c1aece5e072c814f57b9d7cd9d40ce7e10", func := "shuttle/shuttlelaw06.ShowWide", spec := "showWide", inPlace := ["internal/abi.NoEscape", "internal/bytealg.MakeNoZero"], unfollowed := true, recurses := true, named := ["unicode/utf8.first", "unicode/utf8.acceptRanges", "internal/strconv.uint64pow10", "math/bits.deBruijn32tab", "math/bits.deBruijn64tab"], apart := false, laid := [("math/bits.deBruijn32tab", laid_math_bits_deBruijn32tab), ("math/bits.deBruijn64tab", laid_math_bits_deBruijn64tab), ("internal/strconv.uint64pow10", laid_internal_strconv_uint64pow10), ("unicode/utf8.acceptRanges", laid_unicode_utf8_acceptRanges), ("unicode/utf8.first", laid_unicode_utf8_first)], narrowed := true }
def ShowWideUptoSaid : Prop := showWideUptoRow.holds Tryd.pinned (OpenSpec.upto showWideSpec)

/-- 'shuttlelaw06.ShowCut', WHERE WHAT IT READS IS OF BULK AT MOST 1048576: true; the input reads as it did. -/
def showCutUptoRow : OpenClaim := { program := "ythpjkgoahneldaadoor", sum := "49f26187ec0aa1685ca98a88b35758c1aece5e072c814f57b9d7cd9d40ce7e10", func := "shuttle/shuttlelaw06.ShowCut", spec := "showCut", inPlace := ["internal/abi.NoEscape", "internal/bytealg.MakeNoZero"], unfollowed := true, recurses := true, named := ["unicode/utf8.first", "unicode/utf8.acceptRanges", "internal/strconv.uint64pow10", "math/bits.deBruijn32tab", "math/bits.deBruijn64tab"], apart := false, laid := [("math/bits.deBruijn32tab", laid_math_bits_deBruijn32tab), ("math/bits.deBruijn64tab", laid_math_bits_deBruijn64tab), ("internal/strconv.uint64pow10", laid_internal_strconv_uint64pow10), ("unicode/utf8.acceptRanges", laid_unicode_utf8_acceptRanges), ("unicode/utf8.first", laid_unicode_utf8_first)], narrowed := true }
def ShowCutUptoSaid : Prop := showCutUptoRow.holds Tryd.pinned (OpenSpec.upto showCutSpec)

/-- 'shuttlelaw06.ShowPlain', WHERE WHAT IT READS IS OF BULK AT MOST 1048576: true; the input reads as it did. -/
def showPlainUptoRow : OpenClaim := { program := "ythpjkgoahneldaadoor", sum := "49f26187ec0aa1685ca98a88b35758c1aece5e072c814f57b9d7cd9d40ce7e10", func := "shuttle/shuttlelaw06.ShowPlain", spec := "showPlain", inPlace := ["internal/abi.NoEscape", "internal/bytealg.MakeNoZero"], unfollowed := true, recurses := true, named := ["unicode/utf8.first", "unicode/utf8.acceptRanges", "internal/strconv.uint64pow10", "math/bits.deBruijn32tab", "math/bits.deBruijn64tab"], apart := false, laid := [("math/bits.deBruijn32tab", laid_math_bits_deBruijn32tab), ("math/bits.deBruijn64tab", laid_math_bits_deBruijn64tab), ("internal/strconv.uint64pow10", laid_internal_strconv_uint64pow10), ("unicode/utf8.acceptRanges", laid_unicode_utf8_acceptRanges), ("unicode/utf8.first", laid_unicode_utf8_first)], narrowed := true }
def ShowPlainUptoSaid : Prop := showPlainUptoRow.holds Tryd.pinned (OpenSpec.upto showPlainSpec)

/-- 'shuttlelaw06.ShowBytes', WHERE WHAT IT READS IS OF BULK AT MOST 1048576: true; the input reads as it did. -/
def showBytesUptoRow : OpenClaim := { program := "ythpjkgoahneldaadoor", sum := "49f26187ec0aa1685ca98a88b35758c1aece5e072c814f57b9d7cd9d40ce7e10", func := "shuttle/shuttlelaw06.ShowBytes", spec := "showBytes", inPlace := ["internal/abi.NoEscape", "internal/bytealg.MakeNoZero"], unfollowed := true, recurses := true, named := ["unicode/utf8.first", "unicode/utf8.acceptRanges", "internal/strconv.uint64pow10", "math/bits.deBruijn32tab", "math/bits.deBruijn64tab"], apart := false, laid := [("math/bits.deBruijn32tab", laid_math_bits_deBruijn32tab), ("math/bits.deBruijn64tab", laid_math_bits_deBruijn64tab), ("internal/strconv.uint64pow10", laid_internal_strconv_uint64pow10), ("unicode/utf8.acceptRanges", laid_unicode_utf8_acceptRanges), ("unicode/utf8.first", laid_unicode_utf8_first)], narrowed := true }
def ShowBytesUptoSaid : Prop := showBytesUptoRow.holds Tryd.pinned (OpenSpec.upto showBytesSpec)

/-- 'shuttlelaw06.ShowKnown', WHERE WHAT IT READS IS OF BULK AT MOST 1048576: true; the input reads as it did. -/
def showKnownUptoRow : OpenClaim := { program := "ythpjkgoahneldaadoor", sum := "49f26187ec0aa1685ca98a88b35758c1aece5e072c814f57b9d7cd9d40ce7e10", func := "shuttle/shuttlelaw06.ShowKnown", spec := "showKnown", inPlace := ["internal/abi.NoEscape", "internal/bytealg.MakeNoZero"], unfollowed := true, recurses := true, named := ["unicode/utf8.first", "unicode/utf8.acceptRanges", "internal/strconv.uint64pow10", "math/bits.deBruijn32tab", "math/bits.deBruijn64tab"], apart := false, laid := [("math/bits.deBruijn32tab", laid_math_bits_deBruijn32tab), ("math/bits.deBruijn64tab", laid_math_bits_deBruijn64tab), ("internal/strconv.uint64pow10", laid_internal_strconv_uint64pow10), ("unicode/utf8.acceptRanges", laid_unicode_utf8_acceptRanges), ("unicode/utf8.first", laid_unicode_utf8_first)], narrowed := true }
def ShowKnownUptoSaid : Prop := showKnownUptoRow.holds Tryd.pinned (OpenSpec.upto showKnownSpec)

/-- 'shuttlelaw06.ShowAdds', WHERE WHAT IT READS IS OF BULK AT MOST 1048576: true; the input reads as it did. -/
def showAddsUptoRow : OpenClaim := { program := "ythpjkgoahneldaadoor", sum := "49f26187ec0aa1685ca98a88b35758c1aece5e072c814f57b9d7cd9d40ce7e10", func := "shuttle/shuttlelaw06.ShowAdds", spec := "showAdds", inPlace := ["internal/abi.NoEscape", "internal/bytealg.MakeNoZero"], unfollowed := true, recurses := true, named := ["unicode/utf8.first", "unicode/utf8.acceptRanges", "internal/strconv.uint64pow10", "math/bits.deBruijn32tab", "math/bits.deBruijn64tab"], apart := false, laid := [("math/bits.deBruijn32tab", laid_math_bits_deBruijn32tab), ("math/bits.deBruijn64tab", laid_math_bits_deBruijn64tab), ("internal/strconv.uint64pow10", laid_internal_strconv_uint64pow10), ("unicode/utf8.acceptRanges", laid_unicode_utf8_acceptRanges), ("unicode/utf8.first", laid_unicode_utf8_first)], narrowed := true }
def ShowAddsUptoSaid : Prop := showAddsUptoRow.holds Tryd.pinned (OpenSpec.upto showAddsSpec)

end Rows
end Go.Proofs.YthpjkgoahneldaaDoor
