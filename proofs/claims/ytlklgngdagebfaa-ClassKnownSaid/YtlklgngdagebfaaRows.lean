/-
  No cell of these rows narrows 'for every input' (looked for: loops, veiled, ifaces, maps, wideKeys, modest, calm, conditions, laid).
  DERIVED. THE GIVEN ROWS OF THIS SEAT. 8 by the template 'for every input the law returns true; each argument reads behind the call as it read before'; 0 by the template 'total and deterministic' (their statements: YtlklgngdagebfaaTotals.lean).
  GIVEN WITH THE SEED: the statements are not yours to turn. If you find one false, say at which input.
  Laid BY PROGRAM, IN A SANDBOX (cutbox-rows.mjs): the forced cells as the released guide's own fill.sh prints them over the translation de9f44fda90c4806… (all of the seat's roots in one cut). By AI agents, Wed Nov 11 2026. No macro, syntax, notation, axiom, sorry.
-/
import Derived.Test.YtlklgngdagebfaaChecked
import GoSem.Claim
import GoSem.ClaimJoined
import GoSem.ClaimMapViews
import Derived.JoinedTies
import Derived.KernelRfl
namespace Go.Proofs.Ytlklgngdagebfaa
/- THE CELL 'sum', in the pinned program and in every row, IS THE sha256 OF THE DUMP (.gsa) THAT YtlklgngdagebfaaProg.lean LOADS. Nothing in Lean hashes anything: it is a label: what it is worth is what the hold of that sum in a sandbox is worth. -/
noncomputable def Try.pinned : Pinned := { name := "ytlklgngdagebfaa", sum := "de9f44fda90c4806acf9f2ffb6826d688fa2e3ef1bfd606b6406fd8510ec6359", checked := Try.checked }
namespace Rows
def none {H : Type} : Left H := { results := [], args := [] }

/-- 'shuttlelaw02.ClassTells': WHATEVER THE INPUT: true; the input reads as it did. -/
def classTellsSpec : ChangeSpec := { name := "classTells", fn := fun _ => fun
  | [d1, d2] => { results := [.lit (.bool true)], args := [d1, d2] }
  | _ => none }
def classTellsRow : OpenClaim := { program := "ytlklgngdagebfaa", sum := "de9f44fda90c4806acf9f2ffb6826d688fa2e3ef1bfd606b6406fd8510ec6359", func := "shuttle/shuttlelaw02.ClassTells", spec := "classTells", unfollowed := true, recurses := true, apart := false }
def ClassTellsSaid : Prop := classTellsRow.holds Try.pinned (OpenSpec.ofChange classTellsSpec)

/-- ITS FALSE NEIGHBOUR: 'it returns false'. Refute it at one input. -/
def classTellsWrong : ChangeSpec := { name := "classTells", fn := fun _ => fun
  | [d1, d2] => { results := [.lit (.bool false)], args := [d1, d2] }
  | _ => none }
def ClassTellsWrongFalsely : Prop := classTellsRow.holds Try.pinned (OpenSpec.ofChange classTellsWrong)

/-- 'shuttlelaw02.ClassMirrors': WHATEVER THE INPUT: true; the input reads as it did. -/
def classMirrorsSpec : ChangeSpec := { name := "classMirrors", fn := fun _ => fun
  | [d] => { results := [.lit (.bool true)], args := [d] }
  | _ => none }
def classMirrorsRow : OpenClaim := { program := "ytlklgngdagebfaa", sum := "de9f44fda90c4806acf9f2ffb6826d688fa2e3ef1bfd606b6406fd8510ec6359", func := "shuttle/shuttlelaw02.ClassMirrors", spec := "classMirrors", unfollowed := true, recurses := true, apart := false }
def ClassMirrorsSaid : Prop := classMirrorsRow.holds Try.pinned (OpenSpec.ofChange classMirrorsSpec)

/-- ITS FALSE NEIGHBOUR: 'it returns false'. Refute it at one input. -/
def classMirrorsWrong : ChangeSpec := { name := "classMirrors", fn := fun _ => fun
  | [d] => { results := [.lit (.bool false)], args := [d] }
  | _ => none }
def ClassMirrorsWrongFalsely : Prop := classMirrorsRow.holds Try.pinned (OpenSpec.ofChange classMirrorsWrong)

/-- 'shuttlelaw02.ClassTexts': WHATEVER THE INPUT: true; the input reads as it did. -/
def classTextsSpec : ChangeSpec := { name := "classTexts", fn := fun _ => fun
  | [d1, d2, d3] => { results := [.lit (.bool true)], args := [d1, d2, d3] }
  | _ => none }
def classTextsRow : OpenClaim := { program := "ytlklgngdagebfaa", sum := "de9f44fda90c4806acf9f2ffb6826d688fa2e3ef1bfd606b6406fd8510ec6359", func := "shuttle/shuttlelaw02.ClassTexts", spec := "classTexts", unfollowed := true, recurses := true, apart := false }
def ClassTextsSaid : Prop := classTextsRow.holds Try.pinned (OpenSpec.ofChange classTextsSpec)

/-- ITS FALSE NEIGHBOUR: 'it returns false'. Refute it at one input. -/
def classTextsWrong : ChangeSpec := { name := "classTexts", fn := fun _ => fun
  | [d1, d2, d3] => { results := [.lit (.bool false)], args := [d1, d2, d3] }
  | _ => none }
def ClassTextsWrongFalsely : Prop := classTextsRow.holds Try.pinned (OpenSpec.ofChange classTextsWrong)

/-- 'shuttlelaw02.ClassSpans': WHATEVER THE INPUT: true; the input reads as it did. -/
def classSpansSpec : ChangeSpec := { name := "classSpans", fn := fun _ => fun
  | [d1, d2] => { results := [.lit (.bool true)], args := [d1, d2] }
  | _ => none }
def classSpansRow : OpenClaim := { program := "ytlklgngdagebfaa", sum := "de9f44fda90c4806acf9f2ffb6826d688fa2e3ef1bfd606b6406fd8510ec6359", func := "shuttle/shuttlelaw02.ClassSpans", spec := "classSpans", unfollowed := true, recurses := true, apart := false }
def ClassSpansSaid : Prop := classSpansRow.holds Try.pinned (OpenSpec.ofChange classSpansSpec)

/-- ITS FALSE NEIGHBOUR: 'it returns false'. Refute it at one input. -/
def classSpansWrong : ChangeSpec := { name := "classSpans", fn := fun _ => fun
  | [d1, d2] => { results := [.lit (.bool false)], args := [d1, d2] }
  | _ => none }
def ClassSpansWrongFalsely : Prop := classSpansRow.holds Try.pinned (OpenSpec.ofChange classSpansWrong)

/-- 'shuttlelaw02.ClassSpansHold': WHATEVER THE INPUT: true; the input reads as it did. -/
def classSpansHoldSpec : ChangeSpec := { name := "classSpansHold", fn := fun _ => fun
  | [d1, d2, d3] => { results := [.lit (.bool true)], args := [d1, d2, d3] }
  | _ => none }
def classSpansHoldRow : OpenClaim := { program := "ytlklgngdagebfaa", sum := "de9f44fda90c4806acf9f2ffb6826d688fa2e3ef1bfd606b6406fd8510ec6359", func := "shuttle/shuttlelaw02.ClassSpansHold", spec := "classSpansHold", unfollowed := true, recurses := true, apart := false }
def ClassSpansHoldSaid : Prop := classSpansHoldRow.holds Try.pinned (OpenSpec.ofChange classSpansHoldSpec)

/-- ITS FALSE NEIGHBOUR: 'it returns false'. Refute it at one input. -/
def classSpansHoldWrong : ChangeSpec := { name := "classSpansHold", fn := fun _ => fun
  | [d1, d2, d3] => { results := [.lit (.bool false)], args := [d1, d2, d3] }
  | _ => none }
def ClassSpansHoldWrongFalsely : Prop := classSpansHoldRow.holds Try.pinned (OpenSpec.ofChange classSpansHoldWrong)

/-- 'shuttlelaw02.ClassTiles': WHATEVER THE INPUT: true; the input reads as it did. -/
def classTilesSpec : ChangeSpec := { name := "classTiles", fn := fun _ => fun
  | [d] => { results := [.lit (.bool true)], args := [d] }
  | _ => none }
def classTilesRow : OpenClaim := { program := "ytlklgngdagebfaa", sum := "de9f44fda90c4806acf9f2ffb6826d688fa2e3ef1bfd606b6406fd8510ec6359", func := "shuttle/shuttlelaw02.ClassTiles", spec := "classTiles", unfollowed := true, recurses := true, apart := false }
def ClassTilesSaid : Prop := classTilesRow.holds Try.pinned (OpenSpec.ofChange classTilesSpec)

/-- ITS FALSE NEIGHBOUR: 'it returns false'. Refute it at one input. -/
def classTilesWrong : ChangeSpec := { name := "classTiles", fn := fun _ => fun
  | [d] => { results := [.lit (.bool false)], args := [d] }
  | _ => none }
def ClassTilesWrongFalsely : Prop := classTilesRow.holds Try.pinned (OpenSpec.ofChange classTilesWrong)

/-- 'shuttlelaw02.ClassAlike': WHATEVER THE INPUT: true; the input reads as it did. -/
def classAlikeSpec : ChangeSpec := { name := "classAlike", fn := fun _ => fun
  | [d] => { results := [.lit (.bool true)], args := [d] }
  | _ => none }
def classAlikeRow : OpenClaim := { program := "ytlklgngdagebfaa", sum := "de9f44fda90c4806acf9f2ffb6826d688fa2e3ef1bfd606b6406fd8510ec6359", func := "shuttle/shuttlelaw02.ClassAlike", spec := "classAlike", unfollowed := true, recurses := true, apart := false }
def ClassAlikeSaid : Prop := classAlikeRow.holds Try.pinned (OpenSpec.ofChange classAlikeSpec)

/-- ITS FALSE NEIGHBOUR: 'it returns false'. Refute it at one input. -/
def classAlikeWrong : ChangeSpec := { name := "classAlike", fn := fun _ => fun
  | [d] => { results := [.lit (.bool false)], args := [d] }
  | _ => none }
def ClassAlikeWrongFalsely : Prop := classAlikeRow.holds Try.pinned (OpenSpec.ofChange classAlikeWrong)

/-- 'shuttlelaw02.ClassKnown': WHATEVER THE INPUT: true; the input reads as it did. -/
def classKnownSpec : ChangeSpec := { name := "classKnown", fn := fun _ => fun
  | [] => { results := [.lit (.bool true)], args := [] }
  | _ => none }
def classKnownRow : OpenClaim := { program := "ytlklgngdagebfaa", sum := "de9f44fda90c4806acf9f2ffb6826d688fa2e3ef1bfd606b6406fd8510ec6359", func := "shuttle/shuttlelaw02.ClassKnown", spec := "classKnown", unfollowed := true, recurses := true, apart := false }
def ClassKnownSaid : Prop := classKnownRow.holds Try.pinned (OpenSpec.ofChange classKnownSpec)

/-- ITS FALSE NEIGHBOUR: 'it returns false'. Refute it at one input. -/
def classKnownWrong : ChangeSpec := { name := "classKnown", fn := fun _ => fun
  | [] => { results := [.lit (.bool false)], args := [] }
  | _ => none }
def ClassKnownWrongFalsely : Prop := classKnownRow.holds Try.pinned (OpenSpec.ofChange classKnownWrong)

/- THE SECOND FORM. 'bulk': how many values and letters a reading holds, each counted each time it is reached (what is shared counts as often as it is met; a slice's spare places count too). A statement '..UptoSaid' is the law's where the arguments, and the package variables that the reading takes, are together of bulk at most 1048576: NARROWER than '..Said'. Prove '..Said' where nothing that the law and all that it calls make is longer than what came in: it says more and counts as full. Else prove '..UptoSaid'. A law counts once. -/
mutual
def uptoBulk {H : Type} : DataW H → Nat
  | .lit (.string bytes) => bytes.length + 1
  | .lit _ => 1
  | .nil => 1
  | .ptr d => uptoBulk d + 1
  | .slice elems spare => uptoBulkAll elems + uptoBulkAll spare + 1
  | .agg parts => uptoBulkAll parts + 1
  | .iface _ d => uptoBulk d + 1
  | .map entries => uptoBulkEntries entries + 1
  | .held _ => 1
def uptoBulkAll {H : Type} : List (DataW H) → Nat
  | [] => 0
  | d :: r => uptoBulk d + uptoBulkAll r
def uptoBulkEntries {H : Type} : List (Lit × DataW H) → Nat
  | [] => 0
  | x :: r => uptoBulkEntry x + uptoBulkEntries r
def uptoBulkEntry {H : Type} : Lit × DataW H → Nat
  | (.string bytes, d) => bytes.length + uptoBulk d + 1
  | (_, d) => uptoBulk d + 1
 end
def uptoSmall : (H : Type) → List (DataW H) → Bool := fun _ ds => decide (uptoBulkAll ds ≤ 1048576)
def OpenSpec.upto (s : _root_.Go.ChangeSpec) : _root_.Go.OpenSpec := { _root_.Go.OpenSpec.ofChange s with cond := some uptoSmall }

/-- 'shuttlelaw02.ClassTells', WHERE WHAT IT READS IS OF BULK AT MOST 1048576: true; the input reads as it did. -/
def classTellsUptoRow : OpenClaim := { program := "ytlklgngdagebfaa", sum := "de9f44fda90c4806acf9f2ffb6826d688fa2e3ef1bfd606b6406fd8510ec6359", func := "shuttle/shuttlelaw02.ClassTells", spec := "classTells", unfollowed := true, recurses := true, apart := false, narrowed := true }
def ClassTellsUptoSaid : Prop := classTellsUptoRow.holds Try.pinned (OpenSpec.upto classTellsSpec)

/-- 'shuttlelaw02.ClassMirrors', WHERE WHAT IT READS IS OF BULK AT MOST 1048576: true; the input reads as it did. -/
def classMirrorsUptoRow : OpenClaim := { program := "ytlklgngdagebfaa", sum := "de9f44fda90c4806acf9f2ffb6826d688fa2e3ef1bfd606b6406fd8510ec6359", func := "shuttle/shuttlelaw02.ClassMirrors", spec := "classMirrors", unfollowed := true, recurses := true, apart := false, narrowed := true }
def ClassMirrorsUptoSaid : Prop := classMirrorsUptoRow.holds Try.pinned (OpenSpec.upto classMirrorsSpec)

/-- 'shuttlelaw02.ClassTexts', WHERE WHAT IT READS IS OF BULK AT MOST 1048576: true; the input reads as it did. -/
def classTextsUptoRow : OpenClaim := { program := "ytlklgngdagebfaa", sum := "de9f44fda90c4806acf9f2ffb6826d688fa2e3ef1bfd606b6406fd8510ec6359", func := "shuttle/shuttlelaw02.ClassTexts", spec := "classTexts", unfollowed := true, recurses := true, apart := false, narrowed := true }
def ClassTextsUptoSaid : Prop := classTextsUptoRow.holds Try.pinned (OpenSpec.upto classTextsSpec)

/-- 'shuttlelaw02.ClassSpans', WHERE WHAT IT READS IS OF BULK AT MOST 1048576: true; the input reads as it did. -/
def classSpansUptoRow : OpenClaim := { program := "ytlklgngdagebfaa", sum := "de9f44fda90c4806acf9f2ffb6826d688fa2e3ef1bfd606b6406fd8510ec6359", func := "shuttle/shuttlelaw02.ClassSpans", spec := "classSpans", unfollowed := true, recurses := true, apart := false, narrowed := true }
def ClassSpansUptoSaid : Prop := classSpansUptoRow.holds Try.pinned (OpenSpec.upto classSpansSpec)

/-- 'shuttlelaw02.ClassSpansHold', WHERE WHAT IT READS IS OF BULK AT MOST 1048576: true; the input reads as it did. -/
def classSpansHoldUptoRow : OpenClaim := { program := "ytlklgngdagebfaa", sum := "de9f44fda90c4806acf9f2ffb6826d688fa2e3ef1bfd606b6406fd8510ec6359", func := "shuttle/shuttlelaw02.ClassSpansHold", spec := "classSpansHold", unfollowed := true, recurses := true, apart := false, narrowed := true }
def ClassSpansHoldUptoSaid : Prop := classSpansHoldUptoRow.holds Try.pinned (OpenSpec.upto classSpansHoldSpec)

/-- 'shuttlelaw02.ClassTiles', WHERE WHAT IT READS IS OF BULK AT MOST 1048576: true; the input reads as it did. -/
def classTilesUptoRow : OpenClaim := { program := "ytlklgngdagebfaa", sum := "de9f44fda90c4806acf9f2ffb6826d688fa2e3ef1bfd606b6406fd8510ec6359", func := "shuttle/shuttlelaw02.ClassTiles", spec := "classTiles", unfollowed := true, recurses := true, apart := false, narrowed := true }
def ClassTilesUptoSaid : Prop := classTilesUptoRow.holds Try.pinned (OpenSpec.upto classTilesSpec)

/-- 'shuttlelaw02.ClassAlike', WHERE WHAT IT READS IS OF BULK AT MOST 1048576: true; the input reads as it did. -/
def classAlikeUptoRow : OpenClaim := { program := "ytlklgngdagebfaa", sum := "de9f44fda90c4806acf9f2ffb6826d688fa2e3ef1bfd606b6406fd8510ec6359", func := "shuttle/shuttlelaw02.ClassAlike", spec := "classAlike", unfollowed := true, recurses := true, apart := false, narrowed := true }
def ClassAlikeUptoSaid : Prop := classAlikeUptoRow.holds Try.pinned (OpenSpec.upto classAlikeSpec)

/-- 'shuttlelaw02.ClassKnown', WHERE WHAT IT READS IS OF BULK AT MOST 1048576: true; the input reads as it did. -/
def classKnownUptoRow : OpenClaim := { program := "ytlklgngdagebfaa", sum := "de9f44fda90c4806acf9f2ffb6826d688fa2e3ef1bfd606b6406fd8510ec6359", func := "shuttle/shuttlelaw02.ClassKnown", spec := "classKnown", unfollowed := true, recurses := true, apart := false, narrowed := true }
def ClassKnownUptoSaid : Prop := classKnownUptoRow.holds Try.pinned (OpenSpec.upto classKnownSpec)

end Rows
end Go.Proofs.Ytlklgngdagebfaa
