/-
  Specifications, chapter 11: forms; the law's own helpers.
-/
import Derived.Test.YtliihpdhoimmoaaSpA
import Derived.Test.YtliihpdhoimmoaaPlB
set_option linter.unusedVariables false
set_option linter.unusedSimpArgs false
namespace Go.Proofs.Ytliihpdhoimmoaa
open Go Go.RowKit Vc Tb

/-- A slice of numbers that reads as a list. -/
structure GSl where
  ad : Option Addr
  c : Nat
  xs : List Int

def GSl.val (g : GSl) : Value := .slice g.ad g.xs.length g.c
def GSl.at (k : IntKind) (g : GSl) (w : World) : Prop := CellsAt w g.ad (g.xs.map (Value.int k)) ∧ g.xs.length ≤ 35184372087808

structure GNb where
  l : GSl
  i : Nat
  by' : Int

def sNeighbour : CallSpec where
  G := GNb
  args := fun g => #[.slice g.l.ad g.l.xs.length g.l.c, .int .i64 g.i, .int .i64 g.by']
  pre := fun g w => g.l.at .i32 w ∧ g.i < g.l.xs.length ∧ (g.by' = 1 ∨ g.by' = -1)
  X := Int
  res := fun x => .int .i8 x
  post := fun g w x w' => x = (if g.by' = 1 then nextJ (g.l.xs.drop (g.i + 1)) else nextJ (g.l.xs.take g.i).reverse) ∧ w' = w

def annNeighbour (g : GNb) : Ann where
  sp := [(28, sRune .i8 joinR)]
  loops := [(2, {
    X := Nat
    sh := fun _ x => [(7, .int .i64 (if g.by' = 1 then (x : Int) else (x : Int) - 1))]
    inv := fun _ w0 x w => x ≤ g.l.xs.length ∧ w = w0 ∧ (if g.by' = 1 then nextJ (g.l.xs.drop x) = nextJ (g.l.xs.drop (g.i + 1)) else nextJ (g.l.xs.take x).reverse = nextJ (g.l.xs.take g.i).reverse)
    mu := fun _ _ x _ => if g.by' = 1 then g.l.xs.length - x else x })]
  cuts := []
  wraps := []

/-- A function of a slice of runes that makes a new slice of numbers. -/
def sList (ki ko : IntKind) (e : TypeId) (f : List Int → List Int) : CallSpec where
  G := GSl
  args := fun g => #[.slice g.ad g.xs.length g.c]
  pre := fun g w => g.at ki w
  X := Option Addr × Nat × Nat
  res := fun x => .slice x.1 x.2.1 x.2.2
  post := fun g w x w' => x.2.1 = (f g.xs).length ∧ Made w w' e 1 x.1 x.2.1 ((f g.xs).map (Value.int ko)) x.2.2

def annRForms (g : GSl) (w00 : World) : Ann where
  sp := [(28, sRune .i8 joinR), (29, sNeighbour)]
  loops := [(3, {
    X := Nat × Option Addr × Nat
    sh := fun _ x => [(4, .int .i64 x.1), (3, .slice x.2.1 x.1 x.2.2)]
    inv := fun _ _ x w => x.1 ≤ g.xs.length ∧ Made w00 w 27 1 x.2.1 x.1 (((formsR g.xs).take x.1).map (Value.int .i8)) x.2.2
    mu := fun _ _ x _ => g.xs.length - x.1 })]
  cuts := []
  wraps := []

structure GTwo where
  a : GSl
  b : GSl

def sSame (k : IntKind) : CallSpec where
  G := GTwo
  args := fun g => #[.slice g.a.ad g.a.xs.length g.a.c, .slice g.b.ad g.b.xs.length g.b.c]
  pre := fun g w => g.a.at k w ∧ g.b.at k w
  X := Bool
  res := fun x => .bool x
  post := fun g w x w' => x = decide (g.a.xs = g.b.xs) ∧ Ext w w'

def annSame (g : GTwo) (w00 : World) : Ann where
  sp := []
  loops := [(4, {
    X := Nat
    sh := fun _ x => [(13, .int .i64 x)]
    inv := fun _ _ x w => x ≤ g.a.xs.length ∧ g.a.xs.take x = g.b.xs.take x ∧ Ext w00 w
    mu := fun _ _ x _ => g.a.xs.length - x })]
  cuts := []
  wraps := []

def annForms (g : GSl) (w00 : World) : Ann where
  sp := [(26, sRuneX .i8 joinR)]
  loops := [(4, {
    X := Nat
    sh := fun _ x => [(14, .int .i64 x), (4, .int .i64 (runF g.xs x).1)]
    inv := fun e _ x w => x ≤ g.xs.length ∧ ∃ b, gv e 3 = .slice (some ⟨b, 0, none⟩) g.xs.length g.xs.length ∧ Made w00 w 27 1 (some ⟨b, 0, none⟩) g.xs.length ((runF g.xs x).2.map (Value.int .i8)) g.xs.length
    mu := fun _ _ x _ => g.xs.length - x })]
  cuts := []
  wraps := []

def spNb : List (Nat × CallSpec) := [(28, sRune .i8 joinR)]
def spRForms : List (Nat × CallSpec) := [(28, sRune .i8 joinR), (29, sNeighbour)]
def spForms : List (Nat × CallSpec) := [(26, sRuneX .i8 joinR)]

--#vc neighbour_vc 29 sNeighbour (fun g _ => annNeighbour g) spNb
--#vc rforms_vc 10 (sList .i32 .i8 27 formsR) annRForms spRForms
--#vc same8_vc 13 (sSame .i8) annSame []
--#vc same32_vc 19 (sSame .i32) annSame []
--#vc forms_vc 12 (sList .i32 .i8 27 formsA) annForms spForms

end Go.Proofs.Ytliihpdhoimmoaa
