/-
  Words for specifications: variables that hold lists of one's own.
-/
import Derived.Test.YthkcphnkllnfcaaDoorSpG
set_option linter.unusedVariables false
set_option linter.unusedSimpArgs false
namespace Go.Proofs.YthkcphnkllnfcaaDoor
open Go Go.RowKit Vc

/-- A variable that holds a list of one's own. -/
structure Grow (W : World) (box : Nat) (t e : TypeId) (a : Option Addr) (c : Nat) (vs : List Value) : Prop where
  hb : W.heap[box]? = some (.cells #[.slice a vs.length c] t)
  row : Row W e 1 a vs.length vs c

end Go.Proofs.YthkcphnkllnfcaaDoor
