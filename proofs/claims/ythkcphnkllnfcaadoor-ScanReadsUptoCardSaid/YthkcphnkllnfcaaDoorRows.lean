/-
  NARROWER THAN 'FOR EVERY INPUT', by the rows' own cells (each row's printed sentence says how): ScanOne: laid · ScanText: laid · ScanNumbers: laid · ScanGoes: laid · ScanLanguage: laid · ScanBack: laid · ScanAll: laid · ScanParts: laid · ScanNil: laid · ScanReads: laid · ScanPieces: laid.
  DERIVED. THE GIVEN ROWS OF THIS SEAT. 11 by the template 'for every input the law returns true; each argument reads behind the call as it read before'; 0 by the template 'total and deterministic' (their statements: YthkcphnkllnfcaaDoorTotals.lean).
  GIVEN WITH THE SEED: the statements are not yours to turn. If you find one false, say at which input.
  Laid BY PROGRAM, IN A SANDBOX (cutbox-rows.mjs): the forced cells as the released guide's own fill.sh prints them over the translation 5d6fc5a38f31c8ee… (all of the seat's roots in one cut). By AI agents, Wed Nov 11 2026. No macro, syntax, notation, axiom, sorry.
-/
import Derived.Test.YthkcphnkllnfcaaDoorChecked
import GoSem.PinnedTables
import GoSem.Claim
import GoSem.ClaimJoined
import GoSem.ClaimMapViews
import Derived.JoinedTies
import Derived.KernelRfl
namespace Go.Proofs.YthkcphnkllnfcaaDoor
/- THE CELL 'sum', in the pinned program and in every row, IS THE sha256 OF THE DUMP (.gsa) THAT YthkcphnkllnfcaaDoorProg.lean LOADS. Nothing in Lean hashes anything: it is a label: what it is worth is what the hold of that sum in a sandbox is worth. -/
noncomputable def Tryd.pinned : Pinned := { name := "ythkcphnkllnfcaadoor", sum := "5d6fc5a38f31c8ee8de35fe30ff7909a44a06dd5d013f2b022b4e8702ec48957", checked := Tryd.checked }
namespace Rows
def none {H : Type} : Left H := { results := [], args := [] }

/- WHAT THE LISTED PACKAGE-LEVEL VARIABLES READ AS WHEN THE CALL BEGINS. Each datum BY PROGRAM (the guide's laid-datum.mjs) off the statement by which the dump's own 'gosem.cut.vars' lays the variable. In a bare row this is a premise. The card (YthkcphnkllnfcaaDoorCards.lean) ties it to the program's text. -/
def laid_unicode_utf8_acceptRanges {H : Type} : DataW H := .agg [.agg [.lit (.int .u8 128), .lit (.int .u8 191)], .agg [.lit (.int .u8 160), .lit (.int .u8 191)], .agg [.lit (.int .u8 128), .lit (.int .u8 159)], .agg [.lit (.int .u8 144), .lit (.int .u8 191)], .agg [.lit (.int .u8 128), .lit (.int .u8 143)], .agg [.lit (.int .u8 0), .lit (.int .u8 0)], .agg [.lit (.int .u8 0), .lit (.int .u8 0)], .agg [.lit (.int .u8 0), .lit (.int .u8 0)], .agg [.lit (.int .u8 0), .lit (.int .u8 0)], .agg [.lit (.int .u8 0), .lit (.int .u8 0)], .agg [.lit (.int .u8 0), .lit (.int .u8 0)], .agg [.lit (.int .u8 0), .lit (.int .u8 0)], .agg [.lit (.int .u8 0), .lit (.int .u8 0)], .agg [.lit (.int .u8 0), .lit (.int .u8 0)], .agg [.lit (.int .u8 0), .lit (.int .u8 0)], .agg [.lit (.int .u8 0), .lit (.int .u8 0)]]
/-- One of Go's own tables, pinned by name: the form's constant. -/
def laid_unicode_utf8_first : DataW Unit := Go.Pinned.utf8First

/-- 'shuttlelaw01.ScanOne': WHATEVER THE INPUT: true; the input reads as it did. -/
def scanOneSpec : ChangeSpec := { name := "scanOne", fn := fun _ => fun
  | [d] => { results := [.lit (.bool true)], args := [d] }
  | _ => none }
def scanOneRow : OpenClaim := { program := "ythkcphnkllnfcaadoor", sum := "5d6fc5a38f31c8ee8de35fe30ff7909a44a06dd5d013f2b022b4e8702ec48957", func := "shuttle/shuttlelaw01.ScanOne", spec := "scanOne", unfollowed := true, recurses := true, named := ["unicode/utf8.first", "unicode/utf8.acceptRanges"], apart := false, laid := [("unicode/utf8.acceptRanges", laid_unicode_utf8_acceptRanges), ("unicode/utf8.first", laid_unicode_utf8_first)] }
def ScanOneSaid : Prop := scanOneRow.holds Tryd.pinned (OpenSpec.ofChange scanOneSpec)

/-- ITS FALSE NEIGHBOUR: 'it returns false'. Refute it at one input. -/
def scanOneWrong : ChangeSpec := { name := "scanOne", fn := fun _ => fun
  | [d] => { results := [.lit (.bool false)], args := [d] }
  | _ => none }
def ScanOneWrongFalsely : Prop := scanOneRow.holds Tryd.pinned (OpenSpec.ofChange scanOneWrong)

/-- 'shuttlelaw01.ScanText': WHATEVER THE INPUT: true; the input reads as it did. -/
def scanTextSpec : ChangeSpec := { name := "scanText", fn := fun _ => fun
  | [d] => { results := [.lit (.bool true)], args := [d] }
  | _ => none }
def scanTextRow : OpenClaim := { program := "ythkcphnkllnfcaadoor", sum := "5d6fc5a38f31c8ee8de35fe30ff7909a44a06dd5d013f2b022b4e8702ec48957", func := "shuttle/shuttlelaw01.ScanText", spec := "scanText", unfollowed := true, recurses := true, named := ["unicode/utf8.first", "unicode/utf8.acceptRanges"], apart := false, laid := [("unicode/utf8.acceptRanges", laid_unicode_utf8_acceptRanges), ("unicode/utf8.first", laid_unicode_utf8_first)] }
def ScanTextSaid : Prop := scanTextRow.holds Tryd.pinned (OpenSpec.ofChange scanTextSpec)

/-- ITS FALSE NEIGHBOUR: 'it returns false'. Refute it at one input. -/
def scanTextWrong : ChangeSpec := { name := "scanText", fn := fun _ => fun
  | [d] => { results := [.lit (.bool false)], args := [d] }
  | _ => none }
def ScanTextWrongFalsely : Prop := scanTextRow.holds Tryd.pinned (OpenSpec.ofChange scanTextWrong)

/-- 'shuttlelaw01.ScanNumbers': WHATEVER THE INPUT: true; the input reads as it did. -/
def scanNumbersSpec : ChangeSpec := { name := "scanNumbers", fn := fun _ => fun
  | [d] => { results := [.lit (.bool true)], args := [d] }
  | _ => none }
def scanNumbersRow : OpenClaim := { program := "ythkcphnkllnfcaadoor", sum := "5d6fc5a38f31c8ee8de35fe30ff7909a44a06dd5d013f2b022b4e8702ec48957", func := "shuttle/shuttlelaw01.ScanNumbers", spec := "scanNumbers", unfollowed := true, recurses := true, named := ["unicode/utf8.first", "unicode/utf8.acceptRanges"], apart := false, laid := [("unicode/utf8.acceptRanges", laid_unicode_utf8_acceptRanges), ("unicode/utf8.first", laid_unicode_utf8_first)] }
def ScanNumbersSaid : Prop := scanNumbersRow.holds Tryd.pinned (OpenSpec.ofChange scanNumbersSpec)

/-- ITS FALSE NEIGHBOUR: 'it returns false'. Refute it at one input. -/
def scanNumbersWrong : ChangeSpec := { name := "scanNumbers", fn := fun _ => fun
  | [d] => { results := [.lit (.bool false)], args := [d] }
  | _ => none }
def ScanNumbersWrongFalsely : Prop := scanNumbersRow.holds Tryd.pinned (OpenSpec.ofChange scanNumbersWrong)

/-- 'shuttlelaw01.ScanGoes': WHATEVER THE INPUT: true; the input reads as it did. -/
def scanGoesSpec : ChangeSpec := { name := "scanGoes", fn := fun _ => fun
  | [d1, d2] => { results := [.lit (.bool true)], args := [d1, d2] }
  | _ => none }
def scanGoesRow : OpenClaim := { program := "ythkcphnkllnfcaadoor", sum := "5d6fc5a38f31c8ee8de35fe30ff7909a44a06dd5d013f2b022b4e8702ec48957", func := "shuttle/shuttlelaw01.ScanGoes", spec := "scanGoes", unfollowed := true, recurses := true, named := ["unicode/utf8.first", "unicode/utf8.acceptRanges"], apart := false, laid := [("unicode/utf8.acceptRanges", laid_unicode_utf8_acceptRanges), ("unicode/utf8.first", laid_unicode_utf8_first)] }
def ScanGoesSaid : Prop := scanGoesRow.holds Tryd.pinned (OpenSpec.ofChange scanGoesSpec)

/-- ITS FALSE NEIGHBOUR: 'it returns false'. Refute it at one input. -/
def scanGoesWrong : ChangeSpec := { name := "scanGoes", fn := fun _ => fun
  | [d1, d2] => { results := [.lit (.bool false)], args := [d1, d2] }
  | _ => none }
def ScanGoesWrongFalsely : Prop := scanGoesRow.holds Tryd.pinned (OpenSpec.ofChange scanGoesWrong)

/-- 'shuttlelaw01.ScanLanguage': WHATEVER THE INPUT: true; the input reads as it did. -/
def scanLanguageSpec : ChangeSpec := { name := "scanLanguage", fn := fun _ => fun
  | [d1, d2] => { results := [.lit (.bool true)], args := [d1, d2] }
  | _ => none }
def scanLanguageRow : OpenClaim := { program := "ythkcphnkllnfcaadoor", sum := "5d6fc5a38f31c8ee8de35fe30ff7909a44a06dd5d013f2b022b4e8702ec48957", func := "shuttle/shuttlelaw01.ScanLanguage", spec := "scanLanguage", unfollowed := true, recurses := true, named := ["unicode/utf8.first", "unicode/utf8.acceptRanges"], apart := false, laid := [("unicode/utf8.acceptRanges", laid_unicode_utf8_acceptRanges), ("unicode/utf8.first", laid_unicode_utf8_first)] }
def ScanLanguageSaid : Prop := scanLanguageRow.holds Tryd.pinned (OpenSpec.ofChange scanLanguageSpec)

/-- ITS FALSE NEIGHBOUR: 'it returns false'. Refute it at one input. -/
def scanLanguageWrong : ChangeSpec := { name := "scanLanguage", fn := fun _ => fun
  | [d1, d2] => { results := [.lit (.bool false)], args := [d1, d2] }
  | _ => none }
def ScanLanguageWrongFalsely : Prop := scanLanguageRow.holds Tryd.pinned (OpenSpec.ofChange scanLanguageWrong)

/-- 'shuttlelaw01.ScanBack': WHATEVER THE INPUT: true; the input reads as it did. -/
def scanBackSpec : ChangeSpec := { name := "scanBack", fn := fun _ => fun
  | [d] => { results := [.lit (.bool true)], args := [d] }
  | _ => none }
def scanBackRow : OpenClaim := { program := "ythkcphnkllnfcaadoor", sum := "5d6fc5a38f31c8ee8de35fe30ff7909a44a06dd5d013f2b022b4e8702ec48957", func := "shuttle/shuttlelaw01.ScanBack", spec := "scanBack", unfollowed := true, recurses := true, named := ["unicode/utf8.first", "unicode/utf8.acceptRanges"], apart := false, laid := [("unicode/utf8.acceptRanges", laid_unicode_utf8_acceptRanges), ("unicode/utf8.first", laid_unicode_utf8_first)] }
def ScanBackSaid : Prop := scanBackRow.holds Tryd.pinned (OpenSpec.ofChange scanBackSpec)

/-- ITS FALSE NEIGHBOUR: 'it returns false'. Refute it at one input. -/
def scanBackWrong : ChangeSpec := { name := "scanBack", fn := fun _ => fun
  | [d] => { results := [.lit (.bool false)], args := [d] }
  | _ => none }
def ScanBackWrongFalsely : Prop := scanBackRow.holds Tryd.pinned (OpenSpec.ofChange scanBackWrong)

/-- 'shuttlelaw01.ScanAll': WHATEVER THE INPUT: true; the input reads as it did. -/
def scanAllSpec : ChangeSpec := { name := "scanAll", fn := fun _ => fun
  | [d] => { results := [.lit (.bool true)], args := [d] }
  | _ => none }
def scanAllRow : OpenClaim := { program := "ythkcphnkllnfcaadoor", sum := "5d6fc5a38f31c8ee8de35fe30ff7909a44a06dd5d013f2b022b4e8702ec48957", func := "shuttle/shuttlelaw01.ScanAll", spec := "scanAll", unfollowed := true, recurses := true, named := ["unicode/utf8.first", "unicode/utf8.acceptRanges"], apart := false, laid := [("unicode/utf8.acceptRanges", laid_unicode_utf8_acceptRanges), ("unicode/utf8.first", laid_unicode_utf8_first)] }
def ScanAllSaid : Prop := scanAllRow.holds Tryd.pinned (OpenSpec.ofChange scanAllSpec)

/-- ITS FALSE NEIGHBOUR: 'it returns false'. Refute it at one input. -/
def scanAllWrong : ChangeSpec := { name := "scanAll", fn := fun _ => fun
  | [d] => { results := [.lit (.bool false)], args := [d] }
  | _ => none }
def ScanAllWrongFalsely : Prop := scanAllRow.holds Tryd.pinned (OpenSpec.ofChange scanAllWrong)

/-- 'shuttlelaw01.ScanParts': WHATEVER THE INPUT: true; the input reads as it did. -/
def scanPartsSpec : ChangeSpec := { name := "scanParts", fn := fun _ => fun
  | [d1, d2] => { results := [.lit (.bool true)], args := [d1, d2] }
  | _ => none }
def scanPartsRow : OpenClaim := { program := "ythkcphnkllnfcaadoor", sum := "5d6fc5a38f31c8ee8de35fe30ff7909a44a06dd5d013f2b022b4e8702ec48957", func := "shuttle/shuttlelaw01.ScanParts", spec := "scanParts", unfollowed := true, recurses := true, named := ["unicode/utf8.first", "unicode/utf8.acceptRanges"], apart := false, laid := [("unicode/utf8.acceptRanges", laid_unicode_utf8_acceptRanges), ("unicode/utf8.first", laid_unicode_utf8_first)] }
def ScanPartsSaid : Prop := scanPartsRow.holds Tryd.pinned (OpenSpec.ofChange scanPartsSpec)

/-- ITS FALSE NEIGHBOUR: 'it returns false'. Refute it at one input. -/
def scanPartsWrong : ChangeSpec := { name := "scanParts", fn := fun _ => fun
  | [d1, d2] => { results := [.lit (.bool false)], args := [d1, d2] }
  | _ => none }
def ScanPartsWrongFalsely : Prop := scanPartsRow.holds Tryd.pinned (OpenSpec.ofChange scanPartsWrong)

/-- 'shuttlelaw01.ScanNil': WHATEVER THE INPUT: true; the input reads as it did. -/
def scanNilSpec : ChangeSpec := { name := "scanNil", fn := fun _ => fun
  | [d] => { results := [.lit (.bool true)], args := [d] }
  | _ => none }
def scanNilRow : OpenClaim := { program := "ythkcphnkllnfcaadoor", sum := "5d6fc5a38f31c8ee8de35fe30ff7909a44a06dd5d013f2b022b4e8702ec48957", func := "shuttle/shuttlelaw01.ScanNil", spec := "scanNil", unfollowed := true, recurses := true, named := ["unicode/utf8.first", "unicode/utf8.acceptRanges"], apart := false, laid := [("unicode/utf8.acceptRanges", laid_unicode_utf8_acceptRanges), ("unicode/utf8.first", laid_unicode_utf8_first)] }
def ScanNilSaid : Prop := scanNilRow.holds Tryd.pinned (OpenSpec.ofChange scanNilSpec)

/-- ITS FALSE NEIGHBOUR: 'it returns false'. Refute it at one input. -/
def scanNilWrong : ChangeSpec := { name := "scanNil", fn := fun _ => fun
  | [d] => { results := [.lit (.bool false)], args := [d] }
  | _ => none }
def ScanNilWrongFalsely : Prop := scanNilRow.holds Tryd.pinned (OpenSpec.ofChange scanNilWrong)

/-- 'shuttlelaw01.ScanReads': WHATEVER THE INPUT: true; the input reads as it did. -/
def scanReadsSpec : ChangeSpec := { name := "scanReads", fn := fun _ => fun
  | [d1, d2] => { results := [.lit (.bool true)], args := [d1, d2] }
  | _ => none }
def scanReadsRow : OpenClaim := { program := "ythkcphnkllnfcaadoor", sum := "5d6fc5a38f31c8ee8de35fe30ff7909a44a06dd5d013f2b022b4e8702ec48957", func := "shuttle/shuttlelaw01.ScanReads", spec := "scanReads", unfollowed := true, recurses := true, named := ["unicode/utf8.first", "unicode/utf8.acceptRanges"], apart := false, laid := [("unicode/utf8.acceptRanges", laid_unicode_utf8_acceptRanges), ("unicode/utf8.first", laid_unicode_utf8_first)] }
def ScanReadsSaid : Prop := scanReadsRow.holds Tryd.pinned (OpenSpec.ofChange scanReadsSpec)

/-- ITS FALSE NEIGHBOUR: 'it returns false'. Refute it at one input. -/
def scanReadsWrong : ChangeSpec := { name := "scanReads", fn := fun _ => fun
  | [d1, d2] => { results := [.lit (.bool false)], args := [d1, d2] }
  | _ => none }
def ScanReadsWrongFalsely : Prop := scanReadsRow.holds Tryd.pinned (OpenSpec.ofChange scanReadsWrong)

/-- 'shuttlelaw01.ScanPieces': WHATEVER THE INPUT: true; the input reads as it did. -/
def scanPiecesSpec : ChangeSpec := { name := "scanPieces", fn := fun _ => fun
  | [d1, d2] => { results := [.lit (.bool true)], args := [d1, d2] }
  | _ => none }
def scanPiecesRow : OpenClaim := { program := "ythkcphnkllnfcaadoor", sum := "5d6fc5a38f31c8ee8de35fe30ff7909a44a06dd5d013f2b022b4e8702ec48957", func := "shuttle/shuttlelaw01.ScanPieces", spec := "scanPieces", unfollowed := true, recurses := true, named := ["unicode/utf8.first", "unicode/utf8.acceptRanges"], apart := false, laid := [("unicode/utf8.acceptRanges", laid_unicode_utf8_acceptRanges), ("unicode/utf8.first", laid_unicode_utf8_first)] }
def ScanPiecesSaid : Prop := scanPiecesRow.holds Tryd.pinned (OpenSpec.ofChange scanPiecesSpec)

/-- ITS FALSE NEIGHBOUR: 'it returns false'. Refute it at one input. -/
def scanPiecesWrong : ChangeSpec := { name := "scanPieces", fn := fun _ => fun
  | [d1, d2] => { results := [.lit (.bool false)], args := [d1, d2] }
  | _ => none }
def ScanPiecesWrongFalsely : Prop := scanPiecesRow.holds Tryd.pinned (OpenSpec.ofChange scanPiecesWrong)

/- THE SECOND FORM. 'bulk': how many values and letters a reading holds, each counted each time it is reached (what is shared counts as often as it is met; a slice's spare places count too). A statement '..UptoSaid' is the law's where the arguments, and the package variables that the reading takes, are together of bulk at most 1048576: NARROWER than '..Said'. Prove '..Said' where nothing that the law and all that it calls make is longer than what came in: it says more and counts as full. Else prove '..UptoSaid'. A law counts once. -/
mutual
def uptoBulk {H : Type} : DataW H → Nat
  | .lit (.string bytes) => bytes.length + 1
  | .lit _ => 1
  | .nil => 1
  | .ptr d => uptoBulk d + 1
  | .slice elems spare => uptoBulkAll elems + uptoBulkAll spare + 1
  | .agg parts => uptoBulkAll parts + 1
  | .iface _ d => uptoBulk d + 1
  | .map entries => uptoBulkEntries entries + 1
  | .held _ => 1
def uptoBulkAll {H : Type} : List (DataW H) → Nat
  | [] => 0
  | d :: r => uptoBulk d + uptoBulkAll r
def uptoBulkEntries {H : Type} : List (Lit × DataW H) → Nat
  | [] => 0
  | x :: r => uptoBulkEntry x + uptoBulkEntries r
def uptoBulkEntry {H : Type} : Lit × DataW H → Nat
  | (.string bytes, d) => bytes.length + uptoBulk d + 1
  | (_, d) => uptoBulk d + 1
 end
def uptoSmall : (H : Type) → List (DataW H) → Bool := fun _ ds => decide (uptoBulkAll ds ≤ 1048576)
def OpenSpec.upto (s : _root_.Go.ChangeSpec) : _root_.Go.OpenSpec := { _root_.Go.OpenSpec.ofChange s with cond := some uptoSmall }

/-- 'shuttlelaw01.ScanOne', WHERE WHAT IT READS IS OF BULK AT MOST 1048576: true; the input reads as it did. -/
def scanOneUptoRow : OpenClaim := { program := "ythkcphnkllnfcaadoor", sum := "5d6fc5a38f31c8ee8de35fe30ff7909a44a06dd5d013f2b022b4e8702ec48957", func := "shuttle/shuttlelaw01.ScanOne", spec := "scanOne", unfollowed := true, recurses := true, named := ["unicode/utf8.first", "unicode/utf8.acceptRanges"], apart := false, laid := [("unicode/utf8.acceptRanges", laid_unicode_utf8_acceptRanges), ("unicode/utf8.first", laid_unicode_utf8_first)], narrowed := true }
def ScanOneUptoSaid : Prop := scanOneUptoRow.holds Tryd.pinned (OpenSpec.upto scanOneSpec)

/-- 'shuttlelaw01.ScanText', WHERE WHAT IT READS IS OF BULK AT MOST 1048576: true; the input reads as it did. -/
def scanTextUptoRow : OpenClaim := { program := "ythkcphnkllnfcaadoor", sum := "5d6fc5a38f31c8ee8de35fe30ff7909a44a06dd5d013f2b022b4e8702ec48957", func := "shuttle/shuttlelaw01.ScanText", spec := "scanText", unfollowed := true, recurses := true, named := ["unicode/utf8.first", "unicode/utf8.acceptRanges"], apart := false, laid := [("unicode/utf8.acceptRanges", laid_unicode_utf8_acceptRanges), ("unicode/utf8.first", laid_unicode_utf8_first)], narrowed := true }
def ScanTextUptoSaid : Prop := scanTextUptoRow.holds Tryd.pinned (OpenSpec.upto scanTextSpec)

/-- 'shuttlelaw01.ScanNumbers', WHERE WHAT IT READS IS OF BULK AT MOST 1048576: true; the input reads as it did. -/
def scanNumbersUptoRow : OpenClaim := { program := "ythkcphnkllnfcaadoor", sum := "5d6fc5a38f31c8ee8de35fe30ff7909a44a06dd5d013f2b022b4e8702ec48957", func := "shuttle/shuttlelaw01.ScanNumbers", spec := "scanNumbers", unfollowed := true, recurses := true, named := ["unicode/utf8.first", "unicode/utf8.acceptRanges"], apart := false, laid := [("unicode/utf8.acceptRanges", laid_unicode_utf8_acceptRanges), ("unicode/utf8.first", laid_unicode_utf8_first)], narrowed := true }
def ScanNumbersUptoSaid : Prop := scanNumbersUptoRow.holds Tryd.pinned (OpenSpec.upto scanNumbersSpec)

/-- 'shuttlelaw01.ScanGoes', WHERE WHAT IT READS IS OF BULK AT MOST 1048576: true; the input reads as it did. -/
def scanGoesUptoRow : OpenClaim := { program := "ythkcphnkllnfcaadoor", sum := "5d6fc5a38f31c8ee8de35fe30ff7909a44a06dd5d013f2b022b4e8702ec48957", func := "shuttle/shuttlelaw01.ScanGoes", spec := "scanGoes", unfollowed := true, recurses := true, named := ["unicode/utf8.first", "unicode/utf8.acceptRanges"], apart := false, laid := [("unicode/utf8.acceptRanges", laid_unicode_utf8_acceptRanges), ("unicode/utf8.first", laid_unicode_utf8_first)], narrowed := true }
def ScanGoesUptoSaid : Prop := scanGoesUptoRow.holds Tryd.pinned (OpenSpec.upto scanGoesSpec)

/-- 'shuttlelaw01.ScanLanguage', WHERE WHAT IT READS IS OF BULK AT MOST 1048576: true; the input reads as it did. -/
def scanLanguageUptoRow : OpenClaim := { program := "ythkcphnkllnfcaadoor", sum := "5d6fc5a38f31c8ee8de35fe30ff7909a44a06dd5d013f2b022b4e8702ec48957", func := "shuttle/shuttlelaw01.ScanLanguage", spec := "scanLanguage", unfollowed := true, recurses := true, named := ["unicode/utf8.first", "unicode/utf8.acceptRanges"], apart := false, laid := [("unicode/utf8.acceptRanges", laid_unicode_utf8_acceptRanges), ("unicode/utf8.first", laid_unicode_utf8_first)], narrowed := true }
def ScanLanguageUptoSaid : Prop := scanLanguageUptoRow.holds Tryd.pinned (OpenSpec.upto scanLanguageSpec)

/-- 'shuttlelaw01.ScanBack', WHERE WHAT IT READS IS OF BULK AT MOST 1048576: true; the input reads as it did. -/
def scanBackUptoRow : OpenClaim := { program := "ythkcphnkllnfcaadoor", sum := "5d6fc5a38f31c8ee8de35fe30ff7909a44a06dd5d013f2b022b4e8702ec48957", func := "shuttle/shuttlelaw01.ScanBack", spec := "scanBack", unfollowed := true, recurses := true, named := ["unicode/utf8.first", "unicode/utf8.acceptRanges"], apart := false, laid := [("unicode/utf8.acceptRanges", laid_unicode_utf8_acceptRanges), ("unicode/utf8.first", laid_unicode_utf8_first)], narrowed := true }
def ScanBackUptoSaid : Prop := scanBackUptoRow.holds Tryd.pinned (OpenSpec.upto scanBackSpec)

/-- 'shuttlelaw01.ScanAll', WHERE WHAT IT READS IS OF BULK AT MOST 1048576: true; the input reads as it did. -/
def scanAllUptoRow : OpenClaim := { program := "ythkcphnkllnfcaadoor", sum := "5d6fc5a38f31c8ee8de35fe30ff7909a44a06dd5d013f2b022b4e8702ec48957", func := "shuttle/shuttlelaw01.ScanAll", spec := "scanAll", unfollowed := true, recurses := true, named := ["unicode/utf8.first", "unicode/utf8.acceptRanges"], apart := false, laid := [("unicode/utf8.acceptRanges", laid_unicode_utf8_acceptRanges), ("unicode/utf8.first", laid_unicode_utf8_first)], narrowed := true }
def ScanAllUptoSaid : Prop := scanAllUptoRow.holds Tryd.pinned (OpenSpec.upto scanAllSpec)

/-- 'shuttlelaw01.ScanParts', WHERE WHAT IT READS IS OF BULK AT MOST 1048576: true; the input reads as it did. -/
def scanPartsUptoRow : OpenClaim := { program := "ythkcphnkllnfcaadoor", sum := "5d6fc5a38f31c8ee8de35fe30ff7909a44a06dd5d013f2b022b4e8702ec48957", func := "shuttle/shuttlelaw01.ScanParts", spec := "scanParts", unfollowed := true, recurses := true, named := ["unicode/utf8.first", "unicode/utf8.acceptRanges"], apart := false, laid := [("unicode/utf8.acceptRanges", laid_unicode_utf8_acceptRanges), ("unicode/utf8.first", laid_unicode_utf8_first)], narrowed := true }
def ScanPartsUptoSaid : Prop := scanPartsUptoRow.holds Tryd.pinned (OpenSpec.upto scanPartsSpec)

/-- 'shuttlelaw01.ScanNil', WHERE WHAT IT READS IS OF BULK AT MOST 1048576: true; the input reads as it did. -/
def scanNilUptoRow : OpenClaim := { program := "ythkcphnkllnfcaadoor", sum := "5d6fc5a38f31c8ee8de35fe30ff7909a44a06dd5d013f2b022b4e8702ec48957", func := "shuttle/shuttlelaw01.ScanNil", spec := "scanNil", unfollowed := true, recurses := true, named := ["unicode/utf8.first", "unicode/utf8.acceptRanges"], apart := false, laid := [("unicode/utf8.acceptRanges", laid_unicode_utf8_acceptRanges), ("unicode/utf8.first", laid_unicode_utf8_first)], narrowed := true }
def ScanNilUptoSaid : Prop := scanNilUptoRow.holds Tryd.pinned (OpenSpec.upto scanNilSpec)

/-- 'shuttlelaw01.ScanReads', WHERE WHAT IT READS IS OF BULK AT MOST 1048576: true; the input reads as it did. -/
def scanReadsUptoRow : OpenClaim := { program := "ythkcphnkllnfcaadoor", sum := "5d6fc5a38f31c8ee8de35fe30ff7909a44a06dd5d013f2b022b4e8702ec48957", func := "shuttle/shuttlelaw01.ScanReads", spec := "scanReads", unfollowed := true, recurses := true, named := ["unicode/utf8.first", "unicode/utf8.acceptRanges"], apart := false, laid := [("unicode/utf8.acceptRanges", laid_unicode_utf8_acceptRanges), ("unicode/utf8.first", laid_unicode_utf8_first)], narrowed := true }
def ScanReadsUptoSaid : Prop := scanReadsUptoRow.holds Tryd.pinned (OpenSpec.upto scanReadsSpec)

/-- 'shuttlelaw01.ScanPieces', WHERE WHAT IT READS IS OF BULK AT MOST 1048576: true; the input reads as it did. -/
def scanPiecesUptoRow : OpenClaim := { program := "ythkcphnkllnfcaadoor", sum := "5d6fc5a38f31c8ee8de35fe30ff7909a44a06dd5d013f2b022b4e8702ec48957", func := "shuttle/shuttlelaw01.ScanPieces", spec := "scanPieces", unfollowed := true, recurses := true, named := ["unicode/utf8.first", "unicode/utf8.acceptRanges"], apart := false, laid := [("unicode/utf8.acceptRanges", laid_unicode_utf8_acceptRanges), ("unicode/utf8.first", laid_unicode_utf8_first)], narrowed := true }
def ScanPiecesUptoSaid : Prop := scanPiecesUptoRow.holds Tryd.pinned (OpenSpec.upto scanPiecesSpec)

end Rows
end Go.Proofs.YthkcphnkllnfcaaDoor
