/-
  The numbers of a text, by the model's own decoder.
-/
import Derived.WalkKit
set_option linter.unusedVariables false
set_option linter.unusedSimpArgs false
namespace Go.Proofs.YthkcphnkllnfcaaDoor.Vc
open Go

/-- The runes of a string. -/
def runesV (s : ByteArray) : List Value := (Conv.runesFrom s s.size 0 #[]).toList
/-- The number, the width of the rune at a place. -/
def dcR (s : ByteArray) (i : Nat) : Int := ((Utf8.decode s i).1 : Int)
def dcN (s : ByteArray) (i : Nat) : Nat := (Utf8.decode s i).2

end Go.Proofs.YthkcphnkllnfcaaDoor.Vc
