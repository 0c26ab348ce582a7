/-
  Specifications that many functions share.
-/
import Derived.Test.YthkcphnkllnfcaaDoorVe
set_option linter.unusedVariables false
set_option linter.unusedSimpArgs false
namespace Go.Proofs.YthkcphnkllnfcaaDoor
open Go Go.RowKit Vc

/-- A slice of numbers that reads as a list. -/
structure GSl where
  ad : Option Addr
  c : Nat
  xs : List Int
def GSl.at (k : IntKind) (g : GSl) (w : World) : Prop := CellsAt w g.ad (g.xs.map (Value.int k)) ∧ g.xs.length ≤ 35184372087808
structure GTwo where
  a : GSl
  b : GSl
def annOf {α : Type} (sp : List (Nat × CallSpec)) (_ : α) (_ : World) : Ann := { sp := sp }

/-- Two lists are alike. -/
def sSame (k : IntKind) : CallSpec where
  G := GTwo
  args := fun g => #[.slice g.a.ad g.a.xs.length g.a.c, .slice g.b.ad g.b.xs.length g.b.c]
  pre := fun g w => g.a.at k w ∧ g.b.at k w
  X := Bool
  res := fun x => .bool x
  post := fun g w x w' => x = decide (g.a.xs = g.b.xs) ∧ Ext w w'
/-- .. by 'for i := 0; i < len(a); i++', i in slot 5. -/
def annSameI (g : GTwo) (w00 : World) : Ann where
  sp := []
  loops := [(4, {
    X := Nat
    sh := fun _ x => [(5, .int .i64 x)]
    inv := fun _ _ x w => x ≤ g.a.xs.length ∧ g.a.xs.take x = g.b.xs.take x ∧ Ext w00 w
    mu := fun _ _ x _ => g.a.xs.length - x })]

/-- A function without arguments that says yes. -/
def sYes (pre : World → Prop) : CallSpec where
  G := Unit
  args := fun _ => #[]
  pre := fun _ w => pre w
  X := Unit
  res := fun _ => .bool true
  post := fun _ w _ w' => Ext w w'


end Go.Proofs.YthkcphnkllnfcaaDoor
