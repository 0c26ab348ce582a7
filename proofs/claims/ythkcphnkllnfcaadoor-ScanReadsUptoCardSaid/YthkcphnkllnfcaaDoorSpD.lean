/-
  Specifications, chapter 1: laws on one step, on texts and numbers.
-/
import Derived.Test.YthkcphnkllnfcaaDoorSpC
set_option linter.unusedVariables false
set_option linter.unusedSimpArgs false
namespace Go.Proofs.YthkcphnkllnfcaaDoor
open Go Go.RowKit Vc Ut

def spWakes : List (Nat × CallSpec) := [(14, sDec nxR nxN), (15, sDec lsR lsN), (24, sSL .i32 21 runes), (18, sTest wholeB), (25, sTest validB),
  (37, sSN cnt), (21, sLS runesBytes)]
def annWakes (_ : Unit) (w00 : World) : Ann where
  sp := spWakes
  cuts := [(5, 5, { X := Unit, sh := fun _ _ => [(8, .bool true)], inv := fun _ w0 _ w => Ext w0 w })]

def sLawS : CallSpec where
  G := ByteArray
  args := fun s => #[.string s]
  pre := fun s w => U8 w ∧ s.size ≤ 1048576
  X := Unit
  res := fun _ => .bool true
  post := fun _ w _ w' => Ext w w'
def sLawL : CallSpec where
  G := GSl
  args := fun g => #[.slice g.ad g.xs.length g.c]
  pre := fun g w => U8 w ∧ CellsAt w g.ad (g.xs.map (Value.int .i32)) ∧ g.xs.length ≤ 1048576
  X := Unit
  res := fun _ => .bool true
  post := fun _ w _ w' => Ext w w'

def spOne : List (Nat × CallSpec) := [(14, sDec nxR nxN), (15, sDec lsR lsN), (16, sDec nxR nxN), (17, sDec lsR lsN), (18, sTest wholeB), (19, sTest wholeB), (20, sYes U8)]
def spText : List (Nat × CallSpec) := [(21, sLS runesBytes), (22, sSame .i32), (23, sLS runesBytes), (20, sYes U8)]

def sChar : CallSpec where
  G := Int
  args := fun r => #[.int .i32 r]
  pre := fun _ _ => True
  X := Bool
  res := fun x => .bool x
  post := fun r w x w' => x = decide (0 ≤ r ∧ r < 55296 ∨ 57344 ≤ r ∧ r ≤ 1114111) ∧ w' = w
def spNumbers : List (Nat × CallSpec) := [(21, sLS runesBytes), (24, sSL .i32 21 runes), (25, sTest validB), (26, sChar), (20, sYes U8)]
def annNumbers (g : GSl) (w00 : World) : Ann where
  sp := spNumbers
  loops := [(6, {
    X := Nat
    sh := fun _ i => [(5, .int .i64 i)]
    inv := fun e _ i w => i ≤ g.xs.length ∧ Ext w00 w ∧ ∃ a c, gv e 4 = .slice a g.xs.length c ∧ CellsAt w a ((runes (runesBytes g.xs)).map (Value.int .i32))
    mu := fun _ _ i _ => g.xs.length - i })]

--#vc wakes_vc 20 (sYes U8) annWakes spWakes
--#vc lawOne_vc 3 sLawS (annOf spOne) spOne
--#vc lawText_vc 4 sLawL (annOf spText) spText
--#vc char_vc 26 sChar (annOf []) []
--#vc lawNumbers_vc 5 sLawL annNumbers spNumbers

end Go.Proofs.YthkcphnkllnfcaaDoor
