/-
  Texts joined by program: VgN, VgP, VgK, Gn.
-/
import Derived.Test.YthpjkgoahneldaaDoorJb06
import Derived.Test.YthpjkgoahneldaaDoorProg
import Derived.KernelRfl
import Derived.Test.YthpjkgoahneldaaDoorJb05
import Derived.Test.YthpjkgoahneldaaDoorJb03
set_option linter.unusedVariables false
set_option linter.unusedSimpArgs false

section
/-
  Verification conditions, printed by a program out of the specifications beside this text: each theorem says that the condition suffices. (Lean's kernel compares the printed condition with what 'wpE' computes.)
-/
set_option linter.unusedVariables false
namespace Go.Proofs.YthpjkgoahneldaaDoor
open Go Go.RowKit Vc Ut Tb Cl

set_option maxRecDepth 1000000 in
theorem cnext_vc (hsp : SpecsOk Tryd.prog spCNext) (h : ∀ (g : ByteArray) (w : World),
U8 w ∧ g.size ≤ (67108864 : Nat) →
(∃ (g1 : ByteArray),
#[Value.string g] = #[Value.string g1] ∧
(U8 w ∧ g1.size ≤ (67108864 : Nat)) ∧
∀ (x : Int × Nat) (w' : World),
x.fst = nxR g1 ∧ x.snd = nxN g1 ∧ Ext w w' →
bcase (g.toList == (ByteArray.mk #[]).toList)
(∃ (x1 : Nat), Value.int IntKind.i64 (0 : Int) = Value.int IntKind.i64 (↑x1 : Int) ∧ x1 = nextL g ∧ Ext w w')
(bcase (x.fst == (65533 : Int))
(bcase ((↑x.snd : Int) == (1 : Int))
(∃ (y : Unit),
Value.int IntKind.i32 x.fst = Value.int IntKind.i32 (sg g (0 : Nat)) ∧
Value.int IntKind.i64 (↑x.snd : Int) = Value.int IntKind.i64 (↑(pos g (1 : Nat)) : Int) ∧
(0 : Nat) < g.size ∧ (isBad g (0 : Nat) = true ∨ aloneB (sg g (0 : Nat)) = true) ∧ Ext w w')
(∃ (g2 : Int),
#[Value.int IntKind.i32 x.fst] = #[Value.int IntKind.i32 g2] ∧
True ∧
∀ (x1 : Bool) (w'1 : World),
x1 = aloneB g2 ∧ Ext w' w'1 →
bcase x1
(∃ (y : Unit),
Value.int IntKind.i32 x.fst = Value.int IntKind.i32 (sg g (0 : Nat)) ∧
Value.int IntKind.i64 (↑x.snd : Int) = Value.int IntKind.i64 (↑(pos g (1 : Nat)) : Int) ∧
(0 : Nat) < g.size ∧ (isBad g (0 : Nat) = true ∨ aloneB (sg g (0 : Nat)) = true) ∧ Ext w w'1)
(∃ (k : Nat),
(↑x.snd : Int) = (↑k : Int) ∧
k ≤ g.size ∧
g.size ≤ g.size ∧
∃ (g3 : ByteArray),
#[Value.string (g.extract k g.size)] = #[Value.string g3] ∧
(U8 w'1 ∧ g3.size ≤ (67108864 : Nat)) ∧
∀ (x2 : Int × Nat) (w'2 : World),
x2.fst = nxR g3 ∧ x2.snd = nxN g3 ∧ Ext w'1 w'2 →
bcase ((↑x.snd : Int) == (↑g.size : Int) || x2.fst == (65533 : Int) && (↑x2.snd : Int) == (1 : Int))
(∃ (x3 : Nat), Value.int IntKind.i64 (↑x.snd : Int) = Value.int IntKind.i64 (↑x3 : Int) ∧ x3 = nextL g ∧ Ext w w'2)
(∃ (g4 : Int),
#[Value.int IntKind.i32 x2.fst] = #[Value.int IntKind.i32 g4] ∧
True ∧
∀ (x3 : Int) (w'3 : World),
x3 = kindR g4 ∧ Ext w'2 w'3 →
bcase (x3 == (2 : Int))
(bcase (x3 == (2 : Int)) (∃ (c : Nat), (1 : Int) = (↑c : Int) ∧ goB g (0 : Nat) c = true ∧ Ext w'2 w'3)
(∃ (g5 : Int),
#[Value.int IntKind.i32 x.fst] = #[Value.int IntKind.i32 g5] ∧
True ∧
∀ (x4 : Bool) (w'4 : World),
x4 = regB g5 ∧ Ext w'3 w'4 →
bcase x4
(∃ (g6 : Int),
#[Value.int IntKind.i32 x2.fst] = #[Value.int IntKind.i32 g6] ∧
True ∧
∀ (x5 : Bool) (w'5 : World),
x5 = regB g6 ∧ Ext w'4 w'5 →
bcase x5 (∃ (c : Nat), (1 : Int) = (↑c : Int) ∧ goB g (0 : Nat) c = true ∧ Ext w'2 w'5)
(bcase (x.fst == (8205 : Int))
(∃ (g7 : Int),
#[Value.int IntKind.i32 x.fst] = #[Value.int IntKind.i32 g7] ∧
True ∧
∀ (x6 : Bool) (w'6 : World),
x6 = picB g7 ∧ Ext w'5 w'6 →
bcase x6
(∃ (g8 : Int),
#[Value.int IntKind.i32 x2.fst] = #[Value.int IntKind.i32 g8] ∧
True ∧
∀ (x7 : Bool) (w'7 : World),
x7 = picB g8 ∧ Ext w'6 w'7 →
bcase x7 (∃ (c : Nat), (1 : Int) = (↑c : Int) ∧ goB g (0 : Nat) c = true ∧ Ext w'2 w'7)
(∃ (g9 : Int × Int),
#[Value.int IntKind.i32 x.fst, Value.int IntKind.i32 x2.fst] =
#[Value.int IntKind.i32 g9.fst, Value.int IntKind.i32 g9.snd] ∧
True ∧
∀ (x8 : Bool) (w'8 : World),
x8 = sylB g9.fst g9.snd ∧ Ext w'7 w'8 →
bcase x8 (∃ (c : Nat), (1 : Int) = (↑c : Int) ∧ goB g (0 : Nat) c = true ∧ Ext w'2 w'8)
(∃ (x9 : Nat), Value.int IntKind.i64 (↑x.snd : Int) = Value.int IntKind.i64 (↑x9 : Int) ∧ x9 = nextL g ∧ Ext w w'8)))
(∃ (g8 : Int × Int),
#[Value.int IntKind.i32 x.fst, Value.int IntKind.i32 x2.fst] =
#[Value.int IntKind.i32 g8.fst, Value.int IntKind.i32 g8.snd] ∧
True ∧
∀ (x7 : Bool) (w'7 : World),
x7 = sylB g8.fst g8.snd ∧ Ext w'6 w'7 →
bcase x7 (∃ (c : Nat), (1 : Int) = (↑c : Int) ∧ goB g (0 : Nat) c = true ∧ Ext w'2 w'7)
(∃ (x8 : Nat), Value.int IntKind.i64 (↑x.snd : Int) = Value.int IntKind.i64 (↑x8 : Int) ∧ x8 = nextL g ∧ Ext w w'7)))
(∃ (g7 : Int × Int),
#[Value.int IntKind.i32 x.fst, Value.int IntKind.i32 x2.fst] =
#[Value.int IntKind.i32 g7.fst, Value.int IntKind.i32 g7.snd] ∧
True ∧
∀ (x6 : Bool) (w'6 : World),
x6 = sylB g7.fst g7.snd ∧ Ext w'5 w'6 →
bcase x6 (∃ (c : Nat), (1 : Int) = (↑c : Int) ∧ goB g (0 : Nat) c = true ∧ Ext w'2 w'6)
(∃ (x7 : Nat), Value.int IntKind.i64 (↑x.snd : Int) = Value.int IntKind.i64 (↑x7 : Int) ∧ x7 = nextL g ∧ Ext w w'6))))
(bcase (x.fst == (8205 : Int))
(∃ (g6 : Int),
#[Value.int IntKind.i32 x.fst] = #[Value.int IntKind.i32 g6] ∧
True ∧
∀ (x5 : Bool) (w'5 : World),
x5 = picB g6 ∧ Ext w'4 w'5 →
bcase x5
(∃ (g7 : Int),
#[Value.int IntKind.i32 x2.fst] = #[Value.int IntKind.i32 g7] ∧
True ∧
∀ (x6 : Bool) (w'6 : World),
x6 = picB g7 ∧ Ext w'5 w'6 →
bcase x6 (∃ (c : Nat), (1 : Int) = (↑c : Int) ∧ goB g (0 : Nat) c = true ∧ Ext w'2 w'6)
(∃ (g8 : Int × Int),
#[Value.int IntKind.i32 x.fst, Value.int IntKind.i32 x2.fst] =
#[Value.int IntKind.i32 g8.fst, Value.int IntKind.i32 g8.snd] ∧
True ∧
∀ (x7 : Bool) (w'7 : World),
x7 = sylB g8.fst g8.snd ∧ Ext w'6 w'7 →
bcase x7 (∃ (c : Nat), (1 : Int) = (↑c : Int) ∧ goB g (0 : Nat) c = true ∧ Ext w'2 w'7)
(∃ (x8 : Nat), Value.int IntKind.i64 (↑x.snd : Int) = Value.int IntKind.i64 (↑x8 : Int) ∧ x8 = nextL g ∧ Ext w w'7)))
(∃ (g7 : Int × Int),
#[Value.int IntKind.i32 x.fst, Value.int IntKind.i32 x2.fst] =
#[Value.int IntKind.i32 g7.fst, Value.int IntKind.i32 g7.snd] ∧
True ∧
∀ (x6 : Bool) (w'6 : World),
x6 = sylB g7.fst g7.snd ∧ Ext w'5 w'6 →
bcase x6 (∃ (c : Nat), (1 : Int) = (↑c : Int) ∧ goB g (0 : Nat) c = true ∧ Ext w'2 w'6)
(∃ (x7 : Nat), Value.int IntKind.i64 (↑x.snd : Int) = Value.int IntKind.i64 (↑x7 : Int) ∧ x7 = nextL g ∧ Ext w w'6)))
(∃ (g6 : Int × Int),
#[Value.int IntKind.i32 x.fst, Value.int IntKind.i32 x2.fst] =
#[Value.int IntKind.i32 g6.fst, Value.int IntKind.i32 g6.snd] ∧
True ∧
∀ (x5 : Bool) (w'5 : World),
x5 = sylB g6.fst g6.snd ∧ Ext w'4 w'5 →
bcase x5 (∃ (c : Nat), (1 : Int) = (↑c : Int) ∧ goB g (0 : Nat) c = true ∧ Ext w'2 w'5)
(∃ (x6 : Nat), Value.int IntKind.i64 (↑x.snd : Int) = Value.int IntKind.i64 (↑x6 : Int) ∧ x6 = nextL g ∧ Ext w w'5)))))
(∃ (g5 : Int),
#[Value.int IntKind.i32 x2.fst] = #[Value.int IntKind.i32 g5] ∧
True ∧
∀ (x4 : Bool) (w'4 : World),
x4 = joinB g5 ∧ Ext w'3 w'4 →
bcase x4 (∃ (c : Nat), (1 : Int) = (↑c : Int) ∧ goB g (0 : Nat) c = true ∧ Ext w'2 w'4)
(∃ (g6 : Int),
#[Value.int IntKind.i32 x.fst] = #[Value.int IntKind.i32 g6] ∧
True ∧
∀ (x5 : Bool) (w'5 : World),
x5 = regB g6 ∧ Ext w'4 w'5 →
bcase x5
(∃ (g7 : Int),
#[Value.int IntKind.i32 x2.fst] = #[Value.int IntKind.i32 g7] ∧
True ∧
∀ (x6 : Bool) (w'6 : World),
x6 = regB g7 ∧ Ext w'5 w'6 →
bcase x6 (∃ (c : Nat), (1 : Int) = (↑c : Int) ∧ goB g (0 : Nat) c = true ∧ Ext w'2 w'6)
(bcase (x.fst == (8205 : Int))
(∃ (g8 : Int),
#[Value.int IntKind.i32 x.fst] = #[Value.int IntKind.i32 g8] ∧
True ∧
∀ (x7 : Bool) (w'7 : World),
x7 = picB g8 ∧ Ext w'6 w'7 →
bcase x7
(∃ (g9 : Int),
#[Value.int IntKind.i32 x2.fst] = #[Value.int IntKind.i32 g9] ∧
True ∧
∀ (x8 : Bool) (w'8 : World),
x8 = picB g9 ∧ Ext w'7 w'8 →
bcase x8 (∃ (c : Nat), (1 : Int) = (↑c : Int) ∧ goB g (0 : Nat) c = true ∧ Ext w'2 w'8)
(∃ (g10 : Int × Int),
#[Value.int IntKind.i32 x.fst, Value.int IntKind.i32 x2.fst] =
#[Value.int IntKind.i32 g10.fst, Value.int IntKind.i32 g10.snd] ∧
True ∧
∀ (x9 : Bool) (w'9 : World),
x9 = sylB g10.fst g10.snd ∧ Ext w'8 w'9 →
bcase x9 (∃ (c : Nat), (1 : Int) = (↑c : Int) ∧ goB g (0 : Nat) c = true ∧ Ext w'2 w'9)
(∃ (x10 : Nat), Value.int IntKind.i64 (↑x.snd : Int) = Value.int IntKind.i64 (↑x10 : Int) ∧ x10 = nextL g ∧ Ext w w'9)))
(∃ (g9 : Int × Int),
#[Value.int IntKind.i32 x.fst, Value.int IntKind.i32 x2.fst] =
#[Value.int IntKind.i32 g9.fst, Value.int IntKind.i32 g9.snd] ∧
True ∧
∀ (x8 : Bool) (w'8 : World),
x8 = sylB g9.fst g9.snd ∧ Ext w'7 w'8 →
bcase x8 (∃ (c : Nat), (1 : Int) = (↑c : Int) ∧ goB g (0 : Nat) c = true ∧ Ext w'2 w'8)
(∃ (x9 : Nat), Value.int IntKind.i64 (↑x.snd : Int) = Value.int IntKind.i64 (↑x9 : Int) ∧ x9 = nextL g ∧ Ext w w'8)))
(∃ (g8 : Int × Int),
#[Value.int IntKind.i32 x.fst, Value.int IntKind.i32 x2.fst] =
#[Value.int IntKind.i32 g8.fst, Value.int IntKind.i32 g8.snd] ∧
True ∧
∀ (x7 : Bool) (w'7 : World),
x7 = sylB g8.fst g8.snd ∧ Ext w'6 w'7 →
bcase x7 (∃ (c : Nat), (1 : Int) = (↑c : Int) ∧ goB g (0 : Nat) c = true ∧ Ext w'2 w'7)
(∃ (x8 : Nat), Value.int IntKind.i64 (↑x.snd : Int) = Value.int IntKind.i64 (↑x8 : Int) ∧ x8 = nextL g ∧ Ext w w'7))))
(bcase (x.fst == (8205 : Int))
(∃ (g7 : Int),
#[Value.int IntKind.i32 x.fst] = #[Value.int IntKind.i32 g7] ∧
True ∧
∀ (x6 : Bool) (w'6 : World),
x6 = picB g7 ∧ Ext w'5 w'6 →
bcase x6
(∃ (g8 : Int),
#[Value.int IntKind.i32 x2.fst] = #[Value.int IntKind.i32 g8] ∧
True ∧
∀ (x7 : Bool) (w'7 : World),
x7 = picB g8 ∧ Ext w'6 w'7 →
bcase x7 (∃ (c : Nat), (1 : Int) = (↑c : Int) ∧ goB g (0 : Nat) c = true ∧ Ext w'2 w'7)
(∃ (g9 : Int × Int),
#[Value.int IntKind.i32 x.fst, Value.int IntKind.i32 x2.fst] =
#[Value.int IntKind.i32 g9.fst, Value.int IntKind.i32 g9.snd] ∧
True ∧
∀ (x8 : Bool) (w'8 : World),
x8 = sylB g9.fst g9.snd ∧ Ext w'7 w'8 →
bcase x8 (∃ (c : Nat), (1 : Int) = (↑c : Int) ∧ goB g (0 : Nat) c = true ∧ Ext w'2 w'8)
(∃ (x9 : Nat), Value.int IntKind.i64 (↑x.snd : Int) = Value.int IntKind.i64 (↑x9 : Int) ∧ x9 = nextL g ∧ Ext w w'8)))
(∃ (g8 : Int × Int),
#[Value.int IntKind.i32 x.fst, Value.int IntKind.i32 x2.fst] =
#[Value.int IntKind.i32 g8.fst, Value.int IntKind.i32 g8.snd] ∧
True ∧
∀ (x7 : Bool) (w'7 : World),
x7 = sylB g8.fst g8.snd ∧ Ext w'6 w'7 →
bcase x7 (∃ (c : Nat), (1 : Int) = (↑c : Int) ∧ goB g (0 : Nat) c = true ∧ Ext w'2 w'7)
(∃ (x8 : Nat), Value.int IntKind.i64 (↑x.snd : Int) = Value.int IntKind.i64 (↑x8 : Int) ∧ x8 = nextL g ∧ Ext w w'7)))
(∃ (g7 : Int × Int),
#[Value.int IntKind.i32 x.fst, Value.int IntKind.i32 x2.fst] =
#[Value.int IntKind.i32 g7.fst, Value.int IntKind.i32 g7.snd] ∧
True ∧
∀ (x6 : Bool) (w'6 : World),
x6 = sylB g7.fst g7.snd ∧ Ext w'5 w'6 →
bcase x6 (∃ (c : Nat), (1 : Int) = (↑c : Int) ∧ goB g (0 : Nat) c = true ∧ Ext w'2 w'6)
(∃ (x7 : Nat),
Value.int IntKind.i64 (↑x.snd : Int) = Value.int IntKind.i64 (↑x7 : Int) ∧ x7 = nextL g ∧ Ext w w'6)))))) ∧
∀ (u : Nat → Value) (c : Nat) (w'3 : World),
(1 : Int) = (↑c : Int) ∧ goB g (0 : Nat) c = true ∧ Ext w'2 w'3 →
InR IntKind.i64 ((1 : Int) + (1 : Int)) ∧
InR IntKind.i64 ((↑x.snd : Int) + (↑x2.snd : Int)) ∧
∃ (y : Nat),
Value.int IntKind.i32 x.fst = Value.int IntKind.i32 (sg g (0 : Nat)) ∧
Value.int IntKind.i32 x2.fst = Value.int IntKind.i32 (sg g (y - (1 : Nat))) ∧
Value.int IntKind.i64 (2 : Int) = Value.int IntKind.i64 (↑y : Int) ∧
Value.int IntKind.i64 ((↑x.snd : Int) + (↑x2.snd : Int)) = Value.int IntKind.i64 (↑(pos g y) : Int) ∧
(1 : Nat) ≤ y ∧
y ≤ cnt g ∧ y ≤ (32 : Nat) ∧ (0 : Nat) < g.size ∧ goN g (0 : Nat) ((33 : Nat) - y) y = firstN g (0 : Nat) ∧ Ext w w'3)))
(∃ (g2 : Int),
#[Value.int IntKind.i32 x.fst] = #[Value.int IntKind.i32 g2] ∧
True ∧
∀ (x1 : Bool) (w'1 : World),
x1 = aloneB g2 ∧ Ext w' w'1 →
bcase x1
(∃ (y : Unit),
Value.int IntKind.i32 x.fst = Value.int IntKind.i32 (sg g (0 : Nat)) ∧
Value.int IntKind.i64 (↑x.snd : Int) = Value.int IntKind.i64 (↑(pos g (1 : Nat)) : Int) ∧
(0 : Nat) < g.size ∧ (isBad g (0 : Nat) = true ∨ aloneB (sg g (0 : Nat)) = true) ∧ Ext w w'1)
(∃ (k : Nat),
(↑x.snd : Int) = (↑k : Int) ∧
k ≤ g.size ∧
g.size ≤ g.size ∧
∃ (g3 : ByteArray),
#[Value.string (g.extract k g.size)] = #[Value.string g3] ∧
(U8 w'1 ∧ g3.size ≤ (67108864 : Nat)) ∧
∀ (x2 : Int × Nat) (w'2 : World),
x2.fst = nxR g3 ∧ x2.snd = nxN g3 ∧ Ext w'1 w'2 →
bcase ((↑x.snd : Int) == (↑g.size : Int) || x2.fst == (65533 : Int) && (↑x2.snd : Int) == (1 : Int))
(∃ (x3 : Nat), Value.int IntKind.i64 (↑x.snd : Int) = Value.int IntKind.i64 (↑x3 : Int) ∧ x3 = nextL g ∧ Ext w w'2)
(∃ (g4 : Int),
#[Value.int IntKind.i32 x2.fst] = #[Value.int IntKind.i32 g4] ∧
True ∧
∀ (x3 : Int) (w'3 : World),
x3 = kindR g4 ∧ Ext w'2 w'3 →
bcase (x3 == (2 : Int))
(bcase (x3 == (2 : Int)) (∃ (c : Nat), (1 : Int) = (↑c : Int) ∧ goB g (0 : Nat) c = true ∧ Ext w'2 w'3)
(∃ (g5 : Int),
#[Value.int IntKind.i32 x.fst] = #[Value.int IntKind.i32 g5] ∧
True ∧
∀ (x4 : Bool) (w'4 : World),
x4 = regB g5 ∧ Ext w'3 w'4 →
bcase x4
(∃ (g6 : Int),
#[Value.int IntKind.i32 x2.fst] = #[Value.int IntKind.i32 g6] ∧
True ∧
∀ (x5 : Bool) (w'5 : World),
x5 = regB g6 ∧ Ext w'4 w'5 →
bcase x5 (∃ (c : Nat), (1 : Int) = (↑c : Int) ∧ goB g (0 : Nat) c = true ∧ Ext w'2 w'5)
(bcase (x.fst == (8205 : Int))
(∃ (g7 : Int),
#[Value.int IntKind.i32 x.fst] = #[Value.int IntKind.i32 g7] ∧
True ∧
∀ (x6 : Bool) (w'6 : World),
x6 = picB g7 ∧ Ext w'5 w'6 →
bcase x6
(∃ (g8 : Int),
#[Value.int IntKind.i32 x2.fst] = #[Value.int IntKind.i32 g8] ∧
True ∧
∀ (x7 : Bool) (w'7 : World),
x7 = picB g8 ∧ Ext w'6 w'7 →
bcase x7 (∃ (c : Nat), (1 : Int) = (↑c : Int) ∧ goB g (0 : Nat) c = true ∧ Ext w'2 w'7)
(∃ (g9 : Int × Int),
#[Value.int IntKind.i32 x.fst, Value.int IntKind.i32 x2.fst] =
#[Value.int IntKind.i32 g9.fst, Value.int IntKind.i32 g9.snd] ∧
True ∧
∀ (x8 : Bool) (w'8 : World),
x8 = sylB g9.fst g9.snd ∧ Ext w'7 w'8 →
bcase x8 (∃ (c : Nat), (1 : Int) = (↑c : Int) ∧ goB g (0 : Nat) c = true ∧ Ext w'2 w'8)
(∃ (x9 : Nat), Value.int IntKind.i64 (↑x.snd : Int) = Value.int IntKind.i64 (↑x9 : Int) ∧ x9 = nextL g ∧ Ext w w'8)))
(∃ (g8 : Int × Int),
#[Value.int IntKind.i32 x.fst, Value.int IntKind.i32 x2.fst] =
#[Value.int IntKind.i32 g8.fst, Value.int IntKind.i32 g8.snd] ∧
True ∧
∀ (x7 : Bool) (w'7 : World),
x7 = sylB g8.fst g8.snd ∧ Ext w'6 w'7 →
bcase x7 (∃ (c : Nat), (1 : Int) = (↑c : Int) ∧ goB g (0 : Nat) c = true ∧ Ext w'2 w'7)
(∃ (x8 : Nat), Value.int IntKind.i64 (↑x.snd : Int) = Value.int IntKind.i64 (↑x8 : Int) ∧ x8 = nextL g ∧ Ext w w'7)))
(∃ (g7 : Int × Int),
#[Value.int IntKind.i32 x.fst, Value.int IntKind.i32 x2.fst] =
#[Value.int IntKind.i32 g7.fst, Value.int IntKind.i32 g7.snd] ∧
True ∧
∀ (x6 : Bool) (w'6 : World),
x6 = sylB g7.fst g7.snd ∧ Ext w'5 w'6 →
bcase x6 (∃ (c : Nat), (1 : Int) = (↑c : Int) ∧ goB g (0 : Nat) c = true ∧ Ext w'2 w'6)
(∃ (x7 : Nat), Value.int IntKind.i64 (↑x.snd : Int) = Value.int IntKind.i64 (↑x7 : Int) ∧ x7 = nextL g ∧ Ext w w'6))))
(bcase (x.fst == (8205 : Int))
(∃ (g6 : Int),
#[Value.int IntKind.i32 x.fst] = #[Value.int IntKind.i32 g6] ∧
True ∧
∀ (x5 : Bool) (w'5 : World),
x5 = picB g6 ∧ Ext w'4 w'5 →
bcase x5
(∃ (g7 : Int),
#[Value.int IntKind.i32 x2.fst] = #[Value.int IntKind.i32 g7] ∧
True ∧
∀ (x6 : Bool) (w'6 : World),
x6 = picB g7 ∧ Ext w'5 w'6 →
bcase x6 (∃ (c : Nat), (1 : Int) = (↑c : Int) ∧ goB g (0 : Nat) c = true ∧ Ext w'2 w'6)
(∃ (g8 : Int × Int),
#[Value.int IntKind.i32 x.fst, Value.int IntKind.i32 x2.fst] =
#[Value.int IntKind.i32 g8.fst, Value.int IntKind.i32 g8.snd] ∧
True ∧
∀ (x7 : Bool) (w'7 : World),
x7 = sylB g8.fst g8.snd ∧ Ext w'6 w'7 →
bcase x7 (∃ (c : Nat), (1 : Int) = (↑c : Int) ∧ goB g (0 : Nat) c = true ∧ Ext w'2 w'7)
(∃ (x8 : Nat), Value.int IntKind.i64 (↑x.snd : Int) = Value.int IntKind.i64 (↑x8 : Int) ∧ x8 = nextL g ∧ Ext w w'7)))
(∃ (g7 : Int × Int),
#[Value.int IntKind.i32 x.fst, Value.int IntKind.i32 x2.fst] =
#[Value.int IntKind.i32 g7.fst, Value.int IntKind.i32 g7.snd] ∧
True ∧
∀ (x6 : Bool) (w'6 : World),
x6 = sylB g7.fst g7.snd ∧ Ext w'5 w'6 →
bcase x6 (∃ (c : Nat), (1 : Int) = (↑c : Int) ∧ goB g (0 : Nat) c = true ∧ Ext w'2 w'6)
(∃ (x7 : Nat), Value.int IntKind.i64 (↑x.snd : Int) = Value.int IntKind.i64 (↑x7 : Int) ∧ x7 = nextL g ∧ Ext w w'6)))
(∃ (g6 : Int × Int),
#[Value.int IntKind.i32 x.fst, Value.int IntKind.i32 x2.fst] =
#[Value.int IntKind.i32 g6.fst, Value.int IntKind.i32 g6.snd] ∧
True ∧
∀ (x5 : Bool) (w'5 : World),
x5 = sylB g6.fst g6.snd ∧ Ext w'4 w'5 →
bcase x5 (∃ (c : Nat), (1 : Int) = (↑c : Int) ∧ goB g (0 : Nat) c = true ∧ Ext w'2 w'5)
(∃ (x6 : Nat), Value.int IntKind.i64 (↑x.snd : Int) = Value.int IntKind.i64 (↑x6 : Int) ∧ x6 = nextL g ∧ Ext w w'5)))))
(∃ (g5 : Int),
#[Value.int IntKind.i32 x2.fst] = #[Value.int IntKind.i32 g5] ∧
True ∧
∀ (x4 : Bool) (w'4 : World),
x4 = joinB g5 ∧ Ext w'3 w'4 →
bcase x4 (∃ (c : Nat), (1 : Int) = (↑c : Int) ∧ goB g (0 : Nat) c = true ∧ Ext w'2 w'4)
(∃ (g6 : Int),
#[Value.int IntKind.i32 x.fst] = #[Value.int IntKind.i32 g6] ∧
True ∧
∀ (x5 : Bool) (w'5 : World),
x5 = regB g6 ∧ Ext w'4 w'5 →
bcase x5
(∃ (g7 : Int),
#[Value.int IntKind.i32 x2.fst] = #[Value.int IntKind.i32 g7] ∧
True ∧
∀ (x6 : Bool) (w'6 : World),
x6 = regB g7 ∧ Ext w'5 w'6 →
bcase x6 (∃ (c : Nat), (1 : Int) = (↑c : Int) ∧ goB g (0 : Nat) c = true ∧ Ext w'2 w'6)
(bcase (x.fst == (8205 : Int))
(∃ (g8 : Int),
#[Value.int IntKind.i32 x.fst] = #[Value.int IntKind.i32 g8] ∧
True ∧
∀ (x7 : Bool) (w'7 : World),
x7 = picB g8 ∧ Ext w'6 w'7 →
bcase x7
(∃ (g9 : Int),
#[Value.int IntKind.i32 x2.fst] = #[Value.int IntKind.i32 g9] ∧
True ∧
∀ (x8 : Bool) (w'8 : World),
x8 = picB g9 ∧ Ext w'7 w'8 →
bcase x8 (∃ (c : Nat), (1 : Int) = (↑c : Int) ∧ goB g (0 : Nat) c = true ∧ Ext w'2 w'8)
(∃ (g10 : Int × Int),
#[Value.int IntKind.i32 x.fst, Value.int IntKind.i32 x2.fst] =
#[Value.int IntKind.i32 g10.fst, Value.int IntKind.i32 g10.snd] ∧
True ∧
∀ (x9 : Bool) (w'9 : World),
x9 = sylB g10.fst g10.snd ∧ Ext w'8 w'9 →
bcase x9 (∃ (c : Nat), (1 : Int) = (↑c : Int) ∧ goB g (0 : Nat) c = true ∧ Ext w'2 w'9)
(∃ (x10 : Nat), Value.int IntKind.i64 (↑x.snd : Int) = Value.int IntKind.i64 (↑x10 : Int) ∧ x10 = nextL g ∧ Ext w w'9)))
(∃ (g9 : Int × Int),
#[Value.int IntKind.i32 x.fst, Value.int IntKind.i32 x2.fst] =
#[Value.int IntKind.i32 g9.fst, Value.int IntKind.i32 g9.snd] ∧
True ∧
∀ (x8 : Bool) (w'8 : World),
x8 = sylB g9.fst g9.snd ∧ Ext w'7 w'8 →
bcase x8 (∃ (c : Nat), (1 : Int) = (↑c : Int) ∧ goB g (0 : Nat) c = true ∧ Ext w'2 w'8)
(∃ (x9 : Nat), Value.int IntKind.i64 (↑x.snd : Int) = Value.int IntKind.i64 (↑x9 : Int) ∧ x9 = nextL g ∧ Ext w w'8)))
(∃ (g8 : Int × Int),
#[Value.int IntKind.i32 x.fst, Value.int IntKind.i32 x2.fst] =
#[Value.int IntKind.i32 g8.fst, Value.int IntKind.i32 g8.snd] ∧
True ∧
∀ (x7 : Bool) (w'7 : World),
x7 = sylB g8.fst g8.snd ∧ Ext w'6 w'7 →
bcase x7 (∃ (c : Nat), (1 : Int) = (↑c : Int) ∧ goB g (0 : Nat) c = true ∧ Ext w'2 w'7)
(∃ (x8 : Nat), Value.int IntKind.i64 (↑x.snd : Int) = Value.int IntKind.i64 (↑x8 : Int) ∧ x8 = nextL g ∧ Ext w w'7))))
(bcase (x.fst == (8205 : Int))
(∃ (g7 : Int),
#[Value.int IntKind.i32 x.fst] = #[Value.int IntKind.i32 g7] ∧
True ∧
∀ (x6 : Bool) (w'6 : World),
x6 = picB g7 ∧ Ext w'5 w'6 →
bcase x6
(∃ (g8 : Int),
#[Value.int IntKind.i32 x2.fst] = #[Value.int IntKind.i32 g8] ∧
True ∧
∀ (x7 : Bool) (w'7 : World),
x7 = picB g8 ∧ Ext w'6 w'7 →
bcase x7 (∃ (c : Nat), (1 : Int) = (↑c : Int) ∧ goB g (0 : Nat) c = true ∧ Ext w'2 w'7)
(∃ (g9 : Int × Int),
#[Value.int IntKind.i32 x.fst, Value.int IntKind.i32 x2.fst] =
#[Value.int IntKind.i32 g9.fst, Value.int IntKind.i32 g9.snd] ∧
True ∧
∀ (x8 : Bool) (w'8 : World),
x8 = sylB g9.fst g9.snd ∧ Ext w'7 w'8 →
bcase x8 (∃ (c : Nat), (1 : Int) = (↑c : Int) ∧ goB g (0 : Nat) c = true ∧ Ext w'2 w'8)
(∃ (x9 : Nat), Value.int IntKind.i64 (↑x.snd : Int) = Value.int IntKind.i64 (↑x9 : Int) ∧ x9 = nextL g ∧ Ext w w'8)))
(∃ (g8 : Int × Int),
#[Value.int IntKind.i32 x.fst, Value.int IntKind.i32 x2.fst] =
#[Value.int IntKind.i32 g8.fst, Value.int IntKind.i32 g8.snd] ∧
True ∧
∀ (x7 : Bool) (w'7 : World),
x7 = sylB g8.fst g8.snd ∧ Ext w'6 w'7 →
bcase x7 (∃ (c : Nat), (1 : Int) = (↑c : Int) ∧ goB g (0 : Nat) c = true ∧ Ext w'2 w'7)
(∃ (x8 : Nat), Value.int IntKind.i64 (↑x.snd : Int) = Value.int IntKind.i64 (↑x8 : Int) ∧ x8 = nextL g ∧ Ext w w'7)))
(∃ (g7 : Int × Int),
#[Value.int IntKind.i32 x.fst, Value.int IntKind.i32 x2.fst] =
#[Value.int IntKind.i32 g7.fst, Value.int IntKind.i32 g7.snd] ∧
True ∧
∀ (x6 : Bool) (w'6 : World),
x6 = sylB g7.fst g7.snd ∧ Ext w'5 w'6 →
bcase x6 (∃ (c : Nat), (1 : Int) = (↑c : Int) ∧ goB g (0 : Nat) c = true ∧ Ext w'2 w'6)
(∃ (x7 : Nat),
Value.int IntKind.i64 (↑x.snd : Int) = Value.int IntKind.i64 (↑x7 : Int) ∧ x7 = nextL g ∧ Ext w w'6)))))) ∧
∀ (u : Nat → Value) (c : Nat) (w'3 : World),
(1 : Int) = (↑c : Int) ∧ goB g (0 : Nat) c = true ∧ Ext w'2 w'3 →
InR IntKind.i64 ((1 : Int) + (1 : Int)) ∧
InR IntKind.i64 ((↑x.snd : Int) + (↑x2.snd : Int)) ∧
∃ (y : Nat),
Value.int IntKind.i32 x.fst = Value.int IntKind.i32 (sg g (0 : Nat)) ∧
Value.int IntKind.i32 x2.fst = Value.int IntKind.i32 (sg g (y - (1 : Nat))) ∧
Value.int IntKind.i64 (2 : Int) = Value.int IntKind.i64 (↑y : Int) ∧
Value.int IntKind.i64 ((↑x.snd : Int) + (↑x2.snd : Int)) = Value.int IntKind.i64 (↑(pos g y) : Int) ∧
(1 : Nat) ≤ y ∧
y ≤ cnt g ∧
y ≤ (32 : Nat) ∧ (0 : Nat) < g.size ∧ goN g (0 : Nat) ((33 : Nat) - y) y = firstN g (0 : Nat) ∧ Ext w w'3)))) ∧
(∀ (u : Nat → Value) (x : Nat) (w' : World),
(1 : Nat) ≤ x ∧
x ≤ cnt g ∧ x ≤ (32 : Nat) ∧ (0 : Nat) < g.size ∧ goN g (0 : Nat) ((33 : Nat) - x) x = firstN g (0 : Nat) ∧ Ext w w' →
bcase ((↑x : Int) == (32 : Int))
(∃ (x1 : Nat), Value.int IntKind.i64 (↑(pos g x) : Int) = Value.int IntKind.i64 (↑x1 : Int) ∧ x1 = nextL g ∧ Ext w w')
(∃ (k : Nat),
(↑(pos g x) : Int) = (↑k : Int) ∧
k ≤ g.size ∧
g.size ≤ g.size ∧
∃ (g1 : ByteArray),
#[Value.string (g.extract k g.size)] = #[Value.string g1] ∧
(U8 w' ∧ g1.size ≤ (67108864 : Nat)) ∧
∀ (x1 : Int × Nat) (w'1 : World),
x1.fst = nxR g1 ∧ x1.snd = nxN g1 ∧ Ext w' w'1 →
bcase ((↑(pos g x) : Int) == (↑g.size : Int) || x1.fst == (65533 : Int) && (↑x1.snd : Int) == (1 : Int))
(∃ (x2 : Nat), Value.int IntKind.i64 (↑(pos g x) : Int) = Value.int IntKind.i64 (↑x2 : Int) ∧ x2 = nextL g ∧ Ext w w'1)
(∃ (g2 : Int),
#[Value.int IntKind.i32 x1.fst] = #[Value.int IntKind.i32 g2] ∧
True ∧
∀ (x2 : Int) (w'2 : World),
x2 = kindR g2 ∧ Ext w'1 w'2 →
bcase (x2 == (2 : Int))
(bcase (x2 == (2 : Int)) (∃ (c : Nat), (↑x : Int) = (↑c : Int) ∧ goB g (0 : Nat) c = true ∧ Ext w'1 w'2)
(bcase ((↑x : Int) == (1 : Int))
(∃ (g3 : Int),
#[Value.int IntKind.i32 (sg g (0 : Nat))] = #[Value.int IntKind.i32 g3] ∧
True ∧
∀ (x3 : Bool) (w'3 : World),
x3 = regB g3 ∧ Ext w'2 w'3 →
bcase x3
(∃ (g4 : Int),
#[Value.int IntKind.i32 x1.fst] = #[Value.int IntKind.i32 g4] ∧
True ∧
∀ (x4 : Bool) (w'4 : World),
x4 = regB g4 ∧ Ext w'3 w'4 →
bcase x4 (∃ (c : Nat), (↑x : Int) = (↑c : Int) ∧ goB g (0 : Nat) c = true ∧ Ext w'1 w'4)
(bcase (sg g (x - (1 : Nat)) == (8205 : Int))
(∃ (g5 : Int),
#[Value.int IntKind.i32 (sg g (0 : Nat))] = #[Value.int IntKind.i32 g5] ∧
True ∧
∀ (x5 : Bool) (w'5 : World),
x5 = picB g5 ∧ Ext w'4 w'5 →
bcase x5
(∃ (g6 : Int),
#[Value.int IntKind.i32 x1.fst] = #[Value.int IntKind.i32 g6] ∧
True ∧
∀ (x6 : Bool) (w'6 : World),
x6 = picB g6 ∧ Ext w'5 w'6 →
bcase x6 (∃ (c : Nat), (↑x : Int) = (↑c : Int) ∧ goB g (0 : Nat) c = true ∧ Ext w'1 w'6)
(∃ (g7 : Int × Int),
#[Value.int IntKind.i32 (sg g (x - (1 : Nat))), Value.int IntKind.i32 x1.fst] =
#[Value.int IntKind.i32 g7.fst, Value.int IntKind.i32 g7.snd] ∧
True ∧
∀ (x7 : Bool) (w'7 : World),
x7 = sylB g7.fst g7.snd ∧ Ext w'6 w'7 →
bcase x7 (∃ (c : Nat), (↑x : Int) = (↑c : Int) ∧ goB g (0 : Nat) c = true ∧ Ext w'1 w'7)
(∃ (x8 : Nat),
Value.int IntKind.i64 (↑(pos g x) : Int) = Value.int IntKind.i64 (↑x8 : Int) ∧ x8 = nextL g ∧ Ext w w'7)))
(∃ (g6 : Int × Int),
#[Value.int IntKind.i32 (sg g (x - (1 : Nat))), Value.int IntKind.i32 x1.fst] =
#[Value.int IntKind.i32 g6.fst, Value.int IntKind.i32 g6.snd] ∧
True ∧
∀ (x6 : Bool) (w'6 : World),
x6 = sylB g6.fst g6.snd ∧ Ext w'5 w'6 →
bcase x6 (∃ (c : Nat), (↑x : Int) = (↑c : Int) ∧ goB g (0 : Nat) c = true ∧ Ext w'1 w'6)
(∃ (x7 : Nat),
Value.int IntKind.i64 (↑(pos g x) : Int) = Value.int IntKind.i64 (↑x7 : Int) ∧ x7 = nextL g ∧ Ext w w'6)))
(∃ (g5 : Int × Int),
#[Value.int IntKind.i32 (sg g (x - (1 : Nat))), Value.int IntKind.i32 x1.fst] =
#[Value.int IntKind.i32 g5.fst, Value.int IntKind.i32 g5.snd] ∧
True ∧
∀ (x5 : Bool) (w'5 : World),
x5 = sylB g5.fst g5.snd ∧ Ext w'4 w'5 →
bcase x5 (∃ (c : Nat), (↑x : Int) = (↑c : Int) ∧ goB g (0 : Nat) c = true ∧ Ext w'1 w'5)
(∃ (x6 : Nat),
Value.int IntKind.i64 (↑(pos g x) : Int) = Value.int IntKind.i64 (↑x6 : Int) ∧ x6 = nextL g ∧ Ext w w'5))))
(bcase (sg g (x - (1 : Nat)) == (8205 : Int))
(∃ (g4 : Int),
#[Value.int IntKind.i32 (sg g (0 : Nat))] = #[Value.int IntKind.i32 g4] ∧
True ∧
∀ (x4 : Bool) (w'4 : World),
x4 = picB g4 ∧ Ext w'3 w'4 →
bcase x4
(∃ (g5 : Int),
#[Value.int IntKind.i32 x1.fst] = #[Value.int IntKind.i32 g5] ∧
True ∧
∀ (x5 : Bool) (w'5 : World),
x5 = picB g5 ∧ Ext w'4 w'5 →
bcase x5 (∃ (c : Nat), (↑x : Int) = (↑c : Int) ∧ goB g (0 : Nat) c = true ∧ Ext w'1 w'5)
(∃ (g6 : Int × Int),
#[Value.int IntKind.i32 (sg g (x - (1 : Nat))), Value.int IntKind.i32 x1.fst] =
#[Value.int IntKind.i32 g6.fst, Value.int IntKind.i32 g6.snd] ∧
True ∧
∀ (x6 : Bool) (w'6 : World),
x6 = sylB g6.fst g6.snd ∧ Ext w'5 w'6 →
bcase x6 (∃ (c : Nat), (↑x : Int) = (↑c : Int) ∧ goB g (0 : Nat) c = true ∧ Ext w'1 w'6)
(∃ (x7 : Nat),
Value.int IntKind.i64 (↑(pos g x) : Int) = Value.int IntKind.i64 (↑x7 : Int) ∧ x7 = nextL g ∧ Ext w w'6)))
(∃ (g5 : Int × Int),
#[Value.int IntKind.i32 (sg g (x - (1 : Nat))), Value.int IntKind.i32 x1.fst] =
#[Value.int IntKind.i32 g5.fst, Value.int IntKind.i32 g5.snd] ∧
True ∧
∀ (x5 : Bool) (w'5 : World),
x5 = sylB g5.fst g5.snd ∧ Ext w'4 w'5 →
bcase x5 (∃ (c : Nat), (↑x : Int) = (↑c : Int) ∧ goB g (0 : Nat) c = true ∧ Ext w'1 w'5)
(∃ (x6 : Nat),
Value.int IntKind.i64 (↑(pos g x) : Int) = Value.int IntKind.i64 (↑x6 : Int) ∧ x6 = nextL g ∧ Ext w w'5)))
(∃ (g4 : Int × Int),
#[Value.int IntKind.i32 (sg g (x - (1 : Nat))), Value.int IntKind.i32 x1.fst] =
#[Value.int IntKind.i32 g4.fst, Value.int IntKind.i32 g4.snd] ∧
True ∧
∀ (x4 : Bool) (w'4 : World),
x4 = sylB g4.fst g4.snd ∧ Ext w'3 w'4 →
bcase x4 (∃ (c : Nat), (↑x : Int) = (↑c : Int) ∧ goB g (0 : Nat) c = true ∧ Ext w'1 w'4)
(∃ (x5 : Nat),
Value.int IntKind.i64 (↑(pos g x) : Int) = Value.int IntKind.i64 (↑x5 : Int) ∧ x5 = nextL g ∧ Ext w w'4))))
(bcase (sg g (x - (1 : Nat)) == (8205 : Int))
(∃ (g3 : Int),
#[Value.int IntKind.i32 (sg g (0 : Nat))] = #[Value.int IntKind.i32 g3] ∧
True ∧
∀ (x3 : Bool) (w'3 : World),
x3 = picB g3 ∧ Ext w'2 w'3 →
bcase x3
(∃ (g4 : Int),
#[Value.int IntKind.i32 x1.fst] = #[Value.int IntKind.i32 g4] ∧
True ∧
∀ (x4 : Bool) (w'4 : World),
x4 = picB g4 ∧ Ext w'3 w'4 →
bcase x4 (∃ (c : Nat), (↑x : Int) = (↑c : Int) ∧ goB g (0 : Nat) c = true ∧ Ext w'1 w'4)
(∃ (g5 : Int × Int),
#[Value.int IntKind.i32 (sg g (x - (1 : Nat))), Value.int IntKind.i32 x1.fst] =
#[Value.int IntKind.i32 g5.fst, Value.int IntKind.i32 g5.snd] ∧
True ∧
∀ (x5 : Bool) (w'5 : World),
x5 = sylB g5.fst g5.snd ∧ Ext w'4 w'5 →
bcase x5 (∃ (c : Nat), (↑x : Int) = (↑c : Int) ∧ goB g (0 : Nat) c = true ∧ Ext w'1 w'5)
(∃ (x6 : Nat),
Value.int IntKind.i64 (↑(pos g x) : Int) = Value.int IntKind.i64 (↑x6 : Int) ∧ x6 = nextL g ∧ Ext w w'5)))
(∃ (g4 : Int × Int),
#[Value.int IntKind.i32 (sg g (x - (1 : Nat))), Value.int IntKind.i32 x1.fst] =
#[Value.int IntKind.i32 g4.fst, Value.int IntKind.i32 g4.snd] ∧
True ∧
∀ (x4 : Bool) (w'4 : World),
x4 = sylB g4.fst g4.snd ∧ Ext w'3 w'4 →
bcase x4 (∃ (c : Nat), (↑x : Int) = (↑c : Int) ∧ goB g (0 : Nat) c = true ∧ Ext w'1 w'4)
(∃ (x5 : Nat),
Value.int IntKind.i64 (↑(pos g x) : Int) = Value.int IntKind.i64 (↑x5 : Int) ∧ x5 = nextL g ∧ Ext w w'4)))
(∃ (g3 : Int × Int),
#[Value.int IntKind.i32 (sg g (x - (1 : Nat))), Value.int IntKind.i32 x1.fst] =
#[Value.int IntKind.i32 g3.fst, Value.int IntKind.i32 g3.snd] ∧
True ∧
∀ (x3 : Bool) (w'3 : World),
x3 = sylB g3.fst g3.snd ∧ Ext w'2 w'3 →
bcase x3 (∃ (c : Nat), (↑x : Int) = (↑c : Int) ∧ goB g (0 : Nat) c = true ∧ Ext w'1 w'3)
(∃ (x4 : Nat),
Value.int IntKind.i64 (↑(pos g x) : Int) = Value.int IntKind.i64 (↑x4 : Int) ∧ x4 = nextL g ∧ Ext w w'3)))))
(∃ (g3 : Int),
#[Value.int IntKind.i32 x1.fst] = #[Value.int IntKind.i32 g3] ∧
True ∧
∀ (x3 : Bool) (w'3 : World),
x3 = joinB g3 ∧ Ext w'2 w'3 →
bcase x3 (∃ (c : Nat), (↑x : Int) = (↑c : Int) ∧ goB g (0 : Nat) c = true ∧ Ext w'1 w'3)
(bcase ((↑x : Int) == (1 : Int))
(∃ (g4 : Int),
#[Value.int IntKind.i32 (sg g (0 : Nat))] = #[Value.int IntKind.i32 g4] ∧
True ∧
∀ (x4 : Bool) (w'4 : World),
x4 = regB g4 ∧ Ext w'3 w'4 →
bcase x4
(∃ (g5 : Int),
#[Value.int IntKind.i32 x1.fst] = #[Value.int IntKind.i32 g5] ∧
True ∧
∀ (x5 : Bool) (w'5 : World),
x5 = regB g5 ∧ Ext w'4 w'5 →
bcase x5 (∃ (c : Nat), (↑x : Int) = (↑c : Int) ∧ goB g (0 : Nat) c = true ∧ Ext w'1 w'5)
(bcase (sg g (x - (1 : Nat)) == (8205 : Int))
(∃ (g6 : Int),
#[Value.int IntKind.i32 (sg g (0 : Nat))] = #[Value.int IntKind.i32 g6] ∧
True ∧
∀ (x6 : Bool) (w'6 : World),
x6 = picB g6 ∧ Ext w'5 w'6 →
bcase x6
(∃ (g7 : Int),
#[Value.int IntKind.i32 x1.fst] = #[Value.int IntKind.i32 g7] ∧
True ∧
∀ (x7 : Bool) (w'7 : World),
x7 = picB g7 ∧ Ext w'6 w'7 →
bcase x7 (∃ (c : Nat), (↑x : Int) = (↑c : Int) ∧ goB g (0 : Nat) c = true ∧ Ext w'1 w'7)
(∃ (g8 : Int × Int),
#[Value.int IntKind.i32 (sg g (x - (1 : Nat))), Value.int IntKind.i32 x1.fst] =
#[Value.int IntKind.i32 g8.fst, Value.int IntKind.i32 g8.snd] ∧
True ∧
∀ (x8 : Bool) (w'8 : World),
x8 = sylB g8.fst g8.snd ∧ Ext w'7 w'8 →
bcase x8 (∃ (c : Nat), (↑x : Int) = (↑c : Int) ∧ goB g (0 : Nat) c = true ∧ Ext w'1 w'8)
(∃ (x9 : Nat),
Value.int IntKind.i64 (↑(pos g x) : Int) = Value.int IntKind.i64 (↑x9 : Int) ∧ x9 = nextL g ∧ Ext w w'8)))
(∃ (g7 : Int × Int),
#[Value.int IntKind.i32 (sg g (x - (1 : Nat))), Value.int IntKind.i32 x1.fst] =
#[Value.int IntKind.i32 g7.fst, Value.int IntKind.i32 g7.snd] ∧
True ∧
∀ (x7 : Bool) (w'7 : World),
x7 = sylB g7.fst g7.snd ∧ Ext w'6 w'7 →
bcase x7 (∃ (c : Nat), (↑x : Int) = (↑c : Int) ∧ goB g (0 : Nat) c = true ∧ Ext w'1 w'7)
(∃ (x8 : Nat),
Value.int IntKind.i64 (↑(pos g x) : Int) = Value.int IntKind.i64 (↑x8 : Int) ∧ x8 = nextL g ∧ Ext w w'7)))
(∃ (g6 : Int × Int),
#[Value.int IntKind.i32 (sg g (x - (1 : Nat))), Value.int IntKind.i32 x1.fst] =
#[Value.int IntKind.i32 g6.fst, Value.int IntKind.i32 g6.snd] ∧
True ∧
∀ (x6 : Bool) (w'6 : World),
x6 = sylB g6.fst g6.snd ∧ Ext w'5 w'6 →
bcase x6 (∃ (c : Nat), (↑x : Int) = (↑c : Int) ∧ goB g (0 : Nat) c = true ∧ Ext w'1 w'6)
(∃ (x7 : Nat),
Value.int IntKind.i64 (↑(pos g x) : Int) = Value.int IntKind.i64 (↑x7 : Int) ∧ x7 = nextL g ∧ Ext w w'6))))
(bcase (sg g (x - (1 : Nat)) == (8205 : Int))
(∃ (g5 : Int),
#[Value.int IntKind.i32 (sg g (0 : Nat))] = #[Value.int IntKind.i32 g5] ∧
True ∧
∀ (x5 : Bool) (w'5 : World),
x5 = picB g5 ∧ Ext w'4 w'5 →
bcase x5
(∃ (g6 : Int),
#[Value.int IntKind.i32 x1.fst] = #[Value.int IntKind.i32 g6] ∧
True ∧
∀ (x6 : Bool) (w'6 : World),
x6 = picB g6 ∧ Ext w'5 w'6 →
bcase x6 (∃ (c : Nat), (↑x : Int) = (↑c : Int) ∧ goB g (0 : Nat) c = true ∧ Ext w'1 w'6)
(∃ (g7 : Int × Int),
#[Value.int IntKind.i32 (sg g (x - (1 : Nat))), Value.int IntKind.i32 x1.fst] =
#[Value.int IntKind.i32 g7.fst, Value.int IntKind.i32 g7.snd] ∧
True ∧
∀ (x7 : Bool) (w'7 : World),
x7 = sylB g7.fst g7.snd ∧ Ext w'6 w'7 →
bcase x7 (∃ (c : Nat), (↑x : Int) = (↑c : Int) ∧ goB g (0 : Nat) c = true ∧ Ext w'1 w'7)
(∃ (x8 : Nat),
Value.int IntKind.i64 (↑(pos g x) : Int) = Value.int IntKind.i64 (↑x8 : Int) ∧ x8 = nextL g ∧ Ext w w'7)))
(∃ (g6 : Int × Int),
#[Value.int IntKind.i32 (sg g (x - (1 : Nat))), Value.int IntKind.i32 x1.fst] =
#[Value.int IntKind.i32 g6.fst, Value.int IntKind.i32 g6.snd] ∧
True ∧
∀ (x6 : Bool) (w'6 : World),
x6 = sylB g6.fst g6.snd ∧ Ext w'5 w'6 →
bcase x6 (∃ (c : Nat), (↑x : Int) = (↑c : Int) ∧ goB g (0 : Nat) c = true ∧ Ext w'1 w'6)
(∃ (x7 : Nat),
Value.int IntKind.i64 (↑(pos g x) : Int) = Value.int IntKind.i64 (↑x7 : Int) ∧ x7 = nextL g ∧ Ext w w'6)))
(∃ (g5 : Int × Int),
#[Value.int IntKind.i32 (sg g (x - (1 : Nat))), Value.int IntKind.i32 x1.fst] =
#[Value.int IntKind.i32 g5.fst, Value.int IntKind.i32 g5.snd] ∧
True ∧
∀ (x5 : Bool) (w'5 : World),
x5 = sylB g5.fst g5.snd ∧ Ext w'4 w'5 →
bcase x5 (∃ (c : Nat), (↑x : Int) = (↑c : Int) ∧ goB g (0 : Nat) c = true ∧ Ext w'1 w'5)
(∃ (x6 : Nat),
Value.int IntKind.i64 (↑(pos g x) : Int) = Value.int IntKind.i64 (↑x6 : Int) ∧ x6 = nextL g ∧ Ext w w'5))))
(bcase (sg g (x - (1 : Nat)) == (8205 : Int))
(∃ (g4 : Int),
#[Value.int IntKind.i32 (sg g (0 : Nat))] = #[Value.int IntKind.i32 g4] ∧
True ∧
∀ (x4 : Bool) (w'4 : World),
x4 = picB g4 ∧ Ext w'3 w'4 →
bcase x4
(∃ (g5 : Int),
#[Value.int IntKind.i32 x1.fst] = #[Value.int IntKind.i32 g5] ∧
True ∧
∀ (x5 : Bool) (w'5 : World),
x5 = picB g5 ∧ Ext w'4 w'5 →
bcase x5 (∃ (c : Nat), (↑x : Int) = (↑c : Int) ∧ goB g (0 : Nat) c = true ∧ Ext w'1 w'5)
(∃ (g6 : Int × Int),
#[Value.int IntKind.i32 (sg g (x - (1 : Nat))), Value.int IntKind.i32 x1.fst] =
#[Value.int IntKind.i32 g6.fst, Value.int IntKind.i32 g6.snd] ∧
True ∧
∀ (x6 : Bool) (w'6 : World),
x6 = sylB g6.fst g6.snd ∧ Ext w'5 w'6 →
bcase x6 (∃ (c : Nat), (↑x : Int) = (↑c : Int) ∧ goB g (0 : Nat) c = true ∧ Ext w'1 w'6)
(∃ (x7 : Nat),
Value.int IntKind.i64 (↑(pos g x) : Int) = Value.int IntKind.i64 (↑x7 : Int) ∧ x7 = nextL g ∧ Ext w w'6)))
(∃ (g5 : Int × Int),
#[Value.int IntKind.i32 (sg g (x - (1 : Nat))), Value.int IntKind.i32 x1.fst] =
#[Value.int IntKind.i32 g5.fst, Value.int IntKind.i32 g5.snd] ∧
True ∧
∀ (x5 : Bool) (w'5 : World),
x5 = sylB g5.fst g5.snd ∧ Ext w'4 w'5 →
bcase x5 (∃ (c : Nat), (↑x : Int) = (↑c : Int) ∧ goB g (0 : Nat) c = true ∧ Ext w'1 w'5)
(∃ (x6 : Nat),
Value.int IntKind.i64 (↑(pos g x) : Int) = Value.int IntKind.i64 (↑x6 : Int) ∧ x6 = nextL g ∧ Ext w w'5)))
(∃ (g4 : Int × Int),
#[Value.int IntKind.i32 (sg g (x - (1 : Nat))), Value.int IntKind.i32 x1.fst] =
#[Value.int IntKind.i32 g4.fst, Value.int IntKind.i32 g4.snd] ∧
True ∧
∀ (x4 : Bool) (w'4 : World),
x4 = sylB g4.fst g4.snd ∧ Ext w'3 w'4 →
bcase x4 (∃ (c : Nat), (↑x : Int) = (↑c : Int) ∧ goB g (0 : Nat) c = true ∧ Ext w'1 w'4)
(∃ (x5 : Nat),
Value.int IntKind.i64 (↑(pos g x) : Int) = Value.int IntKind.i64 (↑x5 : Int) ∧ x5 = nextL g ∧ Ext w w'4)))))) ∧
∀ (u1 : Nat → Value) (c : Nat) (w'2 : World),
(↑x : Int) = (↑c : Int) ∧ goB g (0 : Nat) c = true ∧ Ext w'1 w'2 →
InR IntKind.i64 ((↑x : Int) + (1 : Int)) ∧
InR IntKind.i64 ((↑(pos g x) : Int) + (↑x1.snd : Int)) ∧
∃ (y : Nat),
Value.int IntKind.i32 (sg g (0 : Nat)) = Value.int IntKind.i32 (sg g (0 : Nat)) ∧
Value.int IntKind.i32 x1.fst = Value.int IntKind.i32 (sg g (y - (1 : Nat))) ∧
Value.int IntKind.i64 ((↑x : Int) + (1 : Int)) = Value.int IntKind.i64 (↑y : Int) ∧
Value.int IntKind.i64 ((↑(pos g x) : Int) + (↑x1.snd : Int)) = Value.int IntKind.i64 (↑(pos g y) : Int) ∧
((1 : Nat) ≤ y ∧
y ≤ cnt g ∧ y ≤ (32 : Nat) ∧ (0 : Nat) < g.size ∧ goN g (0 : Nat) ((33 : Nat) - y) y = firstN g (0 : Nat) ∧ Ext w w'2) ∧
(40 : Nat) - y < (40 : Nat) - x)) ∧
(∀ (u : Nat → Value) (x : Unit) (w' : World),
(0 : Nat) < g.size ∧ (isBad g (0 : Nat) = true ∨ aloneB (sg g (0 : Nat)) = true) ∧ Ext w w' →
bcase (sg g (0 : Nat) == (13 : Int))
(bcase (decide ((↑g.size : Int) > (1 : Int)))
(∃ (k : Nat),
(1 : Int) = (↑k : Int) ∧
k < g.size ∧
bcase ((↑(g.data.toList.getD k (0 : UInt8)).toNat : Int) == (10 : Int))
(∃ (x1 : Nat), Value.int IntKind.i64 (2 : Int) = Value.int IntKind.i64 (↑x1 : Int) ∧ x1 = nextL g ∧ Ext w w')
(∃ (x1 : Nat),
Value.int IntKind.i64 (↑(pos g (1 : Nat)) : Int) = Value.int IntKind.i64 (↑x1 : Int) ∧ x1 = nextL g ∧ Ext w w'))
(∃ (x1 : Nat),
Value.int IntKind.i64 (↑(pos g (1 : Nat)) : Int) = Value.int IntKind.i64 (↑x1 : Int) ∧ x1 = nextL g ∧ Ext w w'))
(∃ (x1 : Nat),
Value.int IntKind.i64 (↑(pos g (1 : Nat)) : Int) = Value.int IntKind.i64 (↑x1 : Int) ∧ x1 = nextL g ∧ Ext w w')) ∧
True) :
    ((sSN nextL)).Ok Tryd.prog 76 :=
  ok_of_vc (sSN nextL) annCNext spCNext (fun _ _ => rfl) (fun _ _ => rfl) hsp Tryd.func76 rfl (n := 1) (fun _ => rfl) (by kernel_rfl) (vcast (by kernel_rfl) h)

set_option maxRecDepth 1000000 in
theorem signs_vc (hsp : SpecsOk Tryd.prog spSigns) (h : ∀ (g : ByteArray) (w : World),
U8 w ∧ g.size ≤ (67108864 : Nat) →
(∃ (x : Nat × Option Addr × Nat),
Value.int IntKind.i64 (0 : Int) = Value.int IntKind.i64 (↑(pos g x.fst) : Int) ∧
Value.slice none (0 : Nat) (0 : Nat) = Value.slice x.snd.fst x.fst x.snd.snd ∧
x.fst ≤ cnt g ∧
Made w w (103 : TypeId) (3 : Nat) x.snd.fst x.fst (List.flatMap (sgnV g) (List.range x.fst)) x.snd.snd) ∧
∀ (u : Nat → Value) (x : Nat × Option Addr × Nat) (w' : World),
x.fst ≤ cnt g ∧
Made w w' (103 : TypeId) (3 : Nat) x.snd.fst x.fst (List.flatMap (sgnV g) (List.range x.fst)) x.snd.snd →
bcase (decide ((↑(pos g x.fst) : Int) < (↑g.size : Int)))
(∃ (k : Nat),
(↑(pos g x.fst) : Int) = (↑k : Int) ∧
k ≤ g.size ∧
g.size ≤ g.size ∧
∃ (g1 : ByteArray),
#[Value.string (g.extract k g.size)] = #[Value.string g1] ∧
(U8 w' ∧ g1.size ≤ (67108864 : Nat)) ∧
∀ (x1 : Int × Nat) (w'1 : World),
x1.fst = nxR g1 ∧ x1.snd = nxN g1 ∧ Ext w' w'1 →
bcase (x1.fst == (65533 : Int))
(∀ (b : Nat) (w1 : World),
New w'1
(Obj.cells
#[Value.int IntKind.i32 x1.fst, Value.int IntKind.i64 (↑(pos g x.fst) : Int), Value.bool ((↑x1.snd : Int) == (1 : Int))]
(103 : Nat))
b w1 →
∃ (a' : Option Addr),
∃ (c' : Nat),
∃ (w'2 : World),
AppRun Tryd.prog #[(90 : Nat), (90 : Nat)] (90 : Nat) (Value.slice x.snd.fst x.fst x.snd.snd)
(Value.slice (some { block := b, off := (0 : Nat) }) (1 : Nat) (1 : Nat)) w1 a' (x.fst + (1 : Nat)) c' w'2 ∧
KO w1 w'2 ∧
InR IntKind.i64 ((↑(pos g x.fst) : Int) + (↑x1.snd : Int)) ∧
∃ (y : Nat × Option Addr × Nat),
Value.int IntKind.i64 ((↑(pos g x.fst) : Int) + (↑x1.snd : Int)) = Value.int IntKind.i64 (↑(pos g y.fst) : Int) ∧
Value.slice a' (x.fst + (1 : Nat)) c' = Value.slice y.snd.fst y.fst y.snd.snd ∧
(y.fst ≤ cnt g ∧
Made w w'2 (103 : TypeId) (3 : Nat) y.snd.fst y.fst (List.flatMap (sgnV g) (List.range y.fst)) y.snd.snd) ∧
cnt g - y.fst < cnt g - x.fst)
(∀ (b : Nat) (w1 : World),
New w'1
(Obj.cells #[Value.int IntKind.i32 x1.fst, Value.int IntKind.i64 (↑(pos g x.fst) : Int), Value.bool false] (103 : Nat))
b w1 →
∃ (a' : Option Addr),
∃ (c' : Nat),
∃ (w'2 : World),
AppRun Tryd.prog #[(90 : Nat), (90 : Nat)] (90 : Nat) (Value.slice x.snd.fst x.fst x.snd.snd)
(Value.slice (some { block := b, off := (0 : Nat) }) (1 : Nat) (1 : Nat)) w1 a' (x.fst + (1 : Nat)) c' w'2 ∧
KO w1 w'2 ∧
InR IntKind.i64 ((↑(pos g x.fst) : Int) + (↑x1.snd : Int)) ∧
∃ (y : Nat × Option Addr × Nat),
Value.int IntKind.i64 ((↑(pos g x.fst) : Int) + (↑x1.snd : Int)) = Value.int IntKind.i64 (↑(pos g y.fst) : Int) ∧
Value.slice a' (x.fst + (1 : Nat)) c' = Value.slice y.snd.fst y.fst y.snd.snd ∧
(y.fst ≤ cnt g ∧
Made w w'2 (103 : TypeId) (3 : Nat) y.snd.fst y.fst (List.flatMap (sgnV g) (List.range y.fst)) y.snd.snd) ∧
cnt g - y.fst < cnt g - x.fst))
(∃ (x1 : Option Addr × Nat × Nat),
Value.slice x.snd.fst x.fst x.snd.snd = Value.slice x1.fst x1.snd.fst x1.snd.snd ∧
x1.snd.fst = cnt g ∧
Made w w' (103 : TypeId) (3 : Nat) x1.fst x1.snd.fst (List.flatMap (sgnV g) (List.range (cnt g))) x1.snd.snd)) :
    (sSigns).Ok Tryd.prog 80 :=
  ok_of_vc sSigns annSigns spSigns (fun _ _ => rfl) (fun _ _ => rfl) hsp Tryd.func80 rfl (n := 1) (fun _ => rfl) (by kernel_rfl) (vcast (by kernel_rfl) h)

set_option maxRecDepth 1000000 in
theorem first_vc (hsp : SpecsOk Tryd.prog spFirst) (h : ∀ (g : GFst) (w : World),
g.k < cnt g.s ∧
g.s.size ≤ (67108864 : Nat) ∧ CellsAt w g.a (List.flatMap (sgnV g.s) (List.drop g.k (List.range (cnt g.s)))) →
∃ (k : Nat),
(0 : Int) = (↑k : Int) ∧
k < cnt g.s - g.k ∧
ptrE g.a fun (b o : Nat) =>
∃ (b1 : Bool),
w.cell? { block := b, off := o + k * (3 : Nat) + (2 : Nat) } = some (Value.bool b1) ∧
bcase b1
(∃ (x : Nat), Value.int IntKind.i64 (1 : Int) = Value.int IntKind.i64 (↑x : Int) ∧ x = firstN g.s g.k ∧ Ext w w)
((∃ (k1 : Nat),
(0 : Int) = (↑k1 : Int) ∧
k1 < cnt g.s - g.k ∧
ptrE g.a fun (b2 o1 : Nat) =>
∃ (n : Int),
w.cell? { block := b2, off := o1 + k1 * (3 : Nat) } = some (Value.int IntKind.i32 n) ∧
bcase (n == (13 : Int))
(bcase (decide ((↑(cnt g.s - g.k) : Int) > (1 : Int)))
(∃ (k2 : Nat),
(1 : Int) = (↑k2 : Int) ∧
k2 < cnt g.s - g.k ∧
ptrE g.a fun (b3 o2 : Nat) =>
∃ (n1 : Int),
w.cell? { block := b3, off := o2 + k2 * (3 : Nat) } = some (Value.int IntKind.i32 n1) ∧
∃ (c : Unit), Value.bool (n1 == (10 : Int)) = Value.bool (crB g.s g.k) ∧ Ext w w)
(∃ (c : Unit), Value.bool false = Value.bool (crB g.s g.k) ∧ Ext w w))
(∃ (c : Unit), Value.bool false = Value.bool (crB g.s g.k) ∧ Ext w w)) ∧
∀ (u : Nat → Value) (c : Unit) (w' : World),
Ext w w' →
bcase (crB g.s g.k)
(∃ (x : Nat), Value.int IntKind.i64 (2 : Int) = Value.int IntKind.i64 (↑x : Int) ∧ x = firstN g.s g.k ∧ Ext w w')
(∃ (k1 : Nat),
(0 : Int) = (↑k1 : Int) ∧
k1 < cnt g.s - g.k ∧
ptrE g.a fun (b2 o1 : Nat) =>
∃ (n : Int),
w'.cell? { block := b2, off := o1 + k1 * (3 : Nat) } = some (Value.int IntKind.i32 n) ∧
∃ (g1 : Int),
#[Value.int IntKind.i32 n] = #[Value.int IntKind.i32 g1] ∧
True ∧
∀ (x : Bool) (w'1 : World),
x = aloneB g1 ∧ Ext w' w'1 →
bcase x
(∃ (x1 : Nat), Value.int IntKind.i64 (1 : Int) = Value.int IntKind.i64 (↑x1 : Int) ∧ x1 = firstN g.s g.k ∧ Ext w w'1)
((∃ (x1 : Nat),
Value.int IntKind.i64 (1 : Int) = Value.int IntKind.i64 (↑x1 : Int) ∧
(1 : Nat) ≤ x1 ∧
g.k + x1 ≤ cnt g.s ∧ x1 ≤ (32 : Nat) ∧ goN g.s g.k ((33 : Nat) - x1) x1 = firstN g.s g.k ∧ Ext w'1 w'1) ∧
∀ (u1 : Nat → Value) (x1 : Nat) (w'2 : World),
(1 : Nat) ≤ x1 ∧
g.k + x1 ≤ cnt g.s ∧ x1 ≤ (32 : Nat) ∧ goN g.s g.k ((33 : Nat) - x1) x1 = firstN g.s g.k ∧ Ext w'1 w'2 →
∀ (w1 : World),
Drew w'2 w1 →
bcase (decide ((↑x1 : Int) < (↑(cnt g.s - g.k) : Int)))
(bcase (decide ((↑x1 : Int) < (32 : Int)))
(∃ (k2 : Nat),
(↑x1 : Int) = (↑k2 : Int) ∧
k2 < cnt g.s - g.k ∧
ptrE g.a fun (b3 o2 : Nat) =>
∃ (b4 : Bool),
w'2.cell? { block := b3, off := o2 + k2 * (3 : Nat) + (2 : Nat) } = some (Value.bool b4) ∧
bcase (!b4)
(∃ (k3 : Nat),
(0 : Int) = (↑k3 : Int) ∧
k3 < cnt g.s - g.k ∧
ptrE g.a fun (b5 o3 : Nat) =>
∃ (n1 : Int),
w'2.cell? { block := b5, off := o3 + k3 * (3 : Nat) } = some (Value.int IntKind.i32 n1) ∧
InR IntKind.i64 ((↑x1 : Int) - (1 : Int)) ∧
∃ (k4 : Nat),
(↑x1 : Int) - (1 : Int) = (↑k4 : Int) ∧
k4 < cnt g.s - g.k ∧
ptrE g.a fun (b6 o4 : Nat) =>
∃ (n2 : Int),
w'2.cell? { block := b6, off := o4 + k4 * (3 : Nat) } = some (Value.int IntKind.i32 n2) ∧
∃ (k5 : Nat),
(↑x1 : Int) = (↑k5 : Int) ∧
k5 < cnt g.s - g.k ∧
ptrE g.a fun (b7 o5 : Nat) =>
∃ (n3 : Int),
w'2.cell? { block := b7, off := o5 + k5 * (3 : Nat) } = some (Value.int IntKind.i32 n3) ∧
∃ (g2 : GTk),
#[Value.int IntKind.i32 n1, Value.int IntKind.i32 n2, Value.int IntKind.i32 n3, Value.int IntKind.i64 (↑x1 : Int)] =
#[Value.int IntKind.i32 g2.x, Value.int IntKind.i32 g2.z, Value.int IntKind.i32 g2.y,
Value.int IntKind.i64 (↑g2.n : Int)] ∧
True ∧
∀ (x2 : Bool) (w'3 : World),
x2 = takesB g2.x g2.z g2.y g2.n ∧ Ext w1 w'3 →
bcase x2
(InR IntKind.i64 ((↑x1 : Int) + (1 : Int)) ∧
∃ (y : Nat),
Value.int IntKind.i64 ((↑x1 : Int) + (1 : Int)) = Value.int IntKind.i64 (↑y : Int) ∧
((1 : Nat) ≤ y ∧ g.k + y ≤ cnt g.s ∧ y ≤ (32 : Nat) ∧ goN g.s g.k ((33 : Nat) - y) y = firstN g.s g.k ∧ Ext w'1 w'3) ∧
(40 : Nat) - y < (40 : Nat) - x1)
(∃ (x3 : Nat), Value.int IntKind.i64 (↑x1 : Int) = Value.int IntKind.i64 (↑x3 : Int) ∧ x3 = firstN g.s g.k ∧ Ext w w'3))
(∃ (x2 : Nat), Value.int IntKind.i64 (↑x1 : Int) = Value.int IntKind.i64 (↑x2 : Int) ∧ x2 = firstN g.s g.k ∧ Ext w w1))
(∃ (x2 : Nat), Value.int IntKind.i64 (↑x1 : Int) = Value.int IntKind.i64 (↑x2 : Int) ∧ x2 = firstN g.s g.k ∧ Ext w w1))
(∃ (x2 : Nat),
Value.int IntKind.i64 (↑x1 : Int) = Value.int IntKind.i64 (↑x2 : Int) ∧ x2 = firstN g.s g.k ∧ Ext w w1))))) :
    (sFirst).Ok Tryd.prog 85 :=
  ok_of_vc sFirst annFirst spFirst (fun _ _ => rfl) (fun _ _ => rfl) hsp Tryd.func85 rfl (n := 1) (fun _ => rfl) (by kernel_rfl) (vcast (by kernel_rfl) h)

set_option maxRecDepth 1000000 in
theorem rallP_vc (hsp : SpecsOk Tryd.prog spRAllP) (h : ∀ (g : ByteArray) (w : World),
U8 w ∧ g.size ≤ (67108864 : Nat) →
∃ (g1 : ByteArray),
#[Value.string g] = #[Value.string g1] ∧
(U8 w ∧ g1.size ≤ (67108864 : Nat)) ∧
∀ (x : Option Addr × Nat × Nat) (w' : World),
x.snd.fst = cnt g1 ∧
Made w w' (103 : TypeId) (3 : Nat) x.fst x.snd.fst (List.flatMap (sgnV g1) (List.range (cnt g1))) x.snd.snd →
(∃ (x1 : GAl),
Value.slice x.fst x.snd.fst x.snd.snd = Value.slice x1.la (cnt g - bk g x1.i) x1.lc ∧
Value.slice none (0 : Nat) (0 : Nat) = Value.slice x1.oa x1.i x1.oc ∧
x1.i ≤ ncl g ∧
cnt g - bk g x1.i ≤ x1.lc ∧
CellsAt w' x1.la (List.flatMap (sgnV g) (List.drop (bk g x1.i) (List.range (cnt g)))) ∧
Made w' w' (44 : TypeId) (2 : Nat) x1.oa x1.i (List.flatMap (pcV g) (List.range x1.i)) x1.oc) ∧
∀ (u : Nat → Value) (x1 : GAl) (w'1 : World),
x1.i ≤ ncl g ∧
cnt g - bk g x1.i ≤ x1.lc ∧
CellsAt w' x1.la (List.flatMap (sgnV g) (List.drop (bk g x1.i) (List.range (cnt g)))) ∧
Made w' w'1 (44 : TypeId) (2 : Nat) x1.oa x1.i (List.flatMap (pcV g) (List.range x1.i)) x1.oc →
bcase (decide ((↑(cnt g - bk g x1.i) : Int) > (0 : Int)))
(∃ (g2 : GFst),
#[Value.slice x1.la (cnt g - bk g x1.i) x1.lc] = #[Value.slice g2.a (cnt g2.s - g2.k) g2.c] ∧
(g2.k < cnt g2.s ∧
g2.s.size ≤ (67108864 : Nat) ∧ CellsAt w'1 g2.a (List.flatMap (sgnV g2.s) (List.drop g2.k (List.range (cnt g2.s))))) ∧
∀ (x2 : Nat) (w'2 : World),
x2 = firstN g2.s g2.k ∧ Ext w'1 w'2 →
bcase (decide ((↑x2 : Int) < (↑(cnt g - bk g x1.i) : Int)))
(∃ (k : Nat),
(↑x2 : Int) = (↑k : Int) ∧
k < cnt g - bk g x1.i ∧
ptrE x1.la fun (b o : Nat) =>
∃ (n : Int),
w'2.cell? { block := b, off := o + k * (3 : Nat) + (1 : Nat) } = some (Value.int IntKind.i64 n) ∧
∀ (w1 : World),
Drew w'2 w1 →
∃ (k1 : Nat),
(0 : Int) = (↑k1 : Int) ∧
k1 < cnt g - bk g x1.i ∧
ptrE x1.la fun (b1 o1 : Nat) =>
∃ (n1 : Int),
w'2.cell? { block := b1, off := o1 + k1 * (3 : Nat) + (1 : Nat) } = some (Value.int IntKind.i64 n1) ∧
∃ (k2 : Nat),
(0 : Int) = (↑k2 : Int) ∧
k2 < cnt g - bk g x1.i ∧
ptrE x1.la fun (b2 o2 : Nat) =>
∃ (n2 : Int),
w'2.cell? { block := b2, off := o2 + k2 * (3 : Nat) + (1 : Nat) } = some (Value.int IntKind.i64 n2) ∧
∃ (k3 : Nat),
n2 = (↑k3 : Int) ∧
∃ (k4 : Nat),
n = (↑k4 : Int) ∧
k3 ≤ k4 ∧
k4 ≤ g.size ∧
∀ (b3 : Nat) (w11 : World),
New w1 (Obj.cells #[Value.int IntKind.i64 n1, Value.string (g.extract k3 k4)] (44 : Nat)) b3 w11 →
Below w1.heap.size w1 w11 ∧
∃ (a' : Option Addr),
∃ (c' : Nat),
∃ (w'3 : World),
AppRun Tryd.prog #[(42 : Nat), (42 : Nat)] (42 : Nat) (Value.slice x1.oa x1.i x1.oc)
(Value.slice (some { block := b3, off := (0 : Nat) }) (1 : Nat) (1 : Nat)) w11 a' (x1.i + (1 : Nat)) c' w'3 ∧
KO w11 w'3 ∧
∃ (ln : Nat),
(↑x2 : Int) = (↑ln : Int) ∧
ln ≤ cnt g - bk g x1.i ∧
∀ (ad' : Option Addr),
SlAt x1.la ad' x1.lc ln (3 : Nat) →
∃ (y : GAl),
Value.slice ad' (cnt g - bk g x1.i - ln) (x1.lc - ln) = Value.slice y.la (cnt g - bk g y.i) y.lc ∧
Value.slice a' (x1.i + (1 : Nat)) c' = Value.slice y.oa y.i y.oc ∧
(y.i ≤ ncl g ∧
cnt g - bk g y.i ≤ y.lc ∧
CellsAt w' y.la (List.flatMap (sgnV g) (List.drop (bk g y.i) (List.range (cnt g)))) ∧
Made w' w'3 (44 : TypeId) (2 : Nat) y.oa y.i (List.flatMap (pcV g) (List.range y.i)) y.oc) ∧
ncl g - y.i < ncl g - x1.i)
(∀ (w1 : World),
Drew w'2 w1 →
∃ (k : Nat),
(0 : Int) = (↑k : Int) ∧
k < cnt g - bk g x1.i ∧
ptrE x1.la fun (b o : Nat) =>
∃ (n : Int),
w'2.cell? { block := b, off := o + k * (3 : Nat) + (1 : Nat) } = some (Value.int IntKind.i64 n) ∧
∃ (k1 : Nat),
(0 : Int) = (↑k1 : Int) ∧
k1 < cnt g - bk g x1.i ∧
ptrE x1.la fun (b1 o1 : Nat) =>
∃ (n1 : Int),
w'2.cell? { block := b1, off := o1 + k1 * (3 : Nat) + (1 : Nat) } = some (Value.int IntKind.i64 n1) ∧
∃ (k2 : Nat),
n1 = (↑k2 : Int) ∧
∃ (k3 : Nat),
(↑g.size : Int) = (↑k3 : Int) ∧
k2 ≤ k3 ∧
k3 ≤ g.size ∧
∀ (b2 : Nat) (w11 : World),
New w1 (Obj.cells #[Value.int IntKind.i64 n, Value.string (g.extract k2 k3)] (44 : Nat)) b2 w11 →
Below w1.heap.size w1 w11 ∧
∃ (a' : Option Addr),
∃ (c' : Nat),
∃ (w'3 : World),
AppRun Tryd.prog #[(42 : Nat), (42 : Nat)] (42 : Nat) (Value.slice x1.oa x1.i x1.oc)
(Value.slice (some { block := b2, off := (0 : Nat) }) (1 : Nat) (1 : Nat)) w11 a' (x1.i + (1 : Nat)) c' w'3 ∧
KO w11 w'3 ∧
∃ (ln : Nat),
(↑x2 : Int) = (↑ln : Int) ∧
ln ≤ cnt g - bk g x1.i ∧
∀ (ad' : Option Addr),
SlAt x1.la ad' x1.lc ln (3 : Nat) →
∃ (y : GAl),
Value.slice ad' (cnt g - bk g x1.i - ln) (x1.lc - ln) = Value.slice y.la (cnt g - bk g y.i) y.lc ∧
Value.slice a' (x1.i + (1 : Nat)) c' = Value.slice y.oa y.i y.oc ∧
(y.i ≤ ncl g ∧
cnt g - bk g y.i ≤ y.lc ∧
CellsAt w' y.la (List.flatMap (sgnV g) (List.drop (bk g y.i) (List.range (cnt g)))) ∧
Made w' w'3 (44 : TypeId) (2 : Nat) y.oa y.i (List.flatMap (pcV g) (List.range y.i)) y.oc) ∧
ncl g - y.i < ncl g - x1.i))
(∃ (x2 : Option Addr × Nat × Nat),
Value.slice x1.oa x1.i x1.oc = Value.slice x2.fst x2.snd.fst x2.snd.snd ∧
x2.snd.fst = ncl g ∧
Made w w'1 (44 : TypeId) (2 : Nat) x2.fst x2.snd.fst (List.flatMap (pcV g) (List.range (ncl g))) x2.snd.snd)) :
    (sRAllP).Ok Tryd.prog 56 :=
  ok_of_vc sRAllP annRAllP spRAllP (fun _ _ => rfl) (fun _ _ => rfl) hsp Tryd.func56 rfl (n := 1) (fun _ => rfl) (by kernel_rfl) (vcast (by kernel_rfl) h)

set_option maxRecDepth 1000000 in
theorem rnextC_vc (hsp : SpecsOk Tryd.prog spRNextC) (h : ∀ (g : ByteArray) (w : World),
U8 w ∧ g.size ≤ (67108864 : Nat) →
∃ (g1 : ByteArray),
#[Value.string g] = #[Value.string g1] ∧
(U8 w ∧ g1.size ≤ (67108864 : Nat)) ∧
∀ (x : Option Addr × Nat × Nat) (w' : World),
x.snd.fst = cnt g1 ∧
Made w w' (103 : TypeId) (3 : Nat) x.fst x.snd.fst (List.flatMap (sgnV g1) (List.range (cnt g1))) x.snd.snd →
bcase ((↑x.snd.fst : Int) == (0 : Int))
(∃ (x1 : Nat), Value.int IntKind.i64 (0 : Int) = Value.int IntKind.i64 (↑x1 : Int) ∧ x1 = nextL g ∧ Ext w w')
(∃ (g2 : GFst),
#[Value.slice x.fst x.snd.fst x.snd.snd] = #[Value.slice g2.a (cnt g2.s - g2.k) g2.c] ∧
(g2.k < cnt g2.s ∧
g2.s.size ≤ (67108864 : Nat) ∧ CellsAt w' g2.a (List.flatMap (sgnV g2.s) (List.drop g2.k (List.range (cnt g2.s))))) ∧
∀ (x1 : Nat) (w'1 : World),
x1 = firstN g2.s g2.k ∧ Ext w' w'1 →
bcase ((↑x1 : Int) == (↑x.snd.fst : Int))
(∃ (x2 : Nat), Value.int IntKind.i64 (↑g.size : Int) = Value.int IntKind.i64 (↑x2 : Int) ∧ x2 = nextL g ∧ Ext w w'1)
(∃ (k : Nat),
(↑x1 : Int) = (↑k : Int) ∧
k < x.snd.fst ∧
ptrE x.fst fun (b o : Nat) =>
∃ (n : Int),
w'1.cell? { block := b, off := o + k * (3 : Nat) + (1 : Nat) } = some (Value.int IntKind.i64 n) ∧
∃ (x2 : Nat), Value.int IntKind.i64 n = Value.int IntKind.i64 (↑x2 : Int) ∧ x2 = nextL g ∧ Ext w w'1))) :
    ((sSN nextL)).Ok Tryd.prog 78 :=
  ok_of_vc (sSN nextL) (annOf spRNextC) spRNextC (fun _ _ => rfl) (fun _ _ => rfl) hsp Tryd.func78 rfl (n := 1) (fun _ => rfl) (by kernel_rfl) (vcast (by kernel_rfl) h)

set_option maxRecDepth 1000000 in
theorem into_vc (hsp : SpecsOk Tryd.prog []) (h : ∀ (g : Int × Int × Int) (w : World),
True →
bcase (decide (g.fst < g.snd.fst))
(∃ (x : Int),
Value.int IntKind.i64 g.snd.fst = Value.int IntKind.i64 x ∧
(x = if g.fst < g.snd.fst then g.snd.fst else if g.fst > g.snd.snd then g.snd.snd else g.fst) ∧ w = w)
(bcase (decide (g.fst > g.snd.snd))
(∃ (x : Int),
Value.int IntKind.i64 g.snd.snd = Value.int IntKind.i64 x ∧
(x = if g.fst < g.snd.fst then g.snd.fst else if g.fst > g.snd.snd then g.snd.snd else g.fst) ∧ w = w)
(∃ (x : Int),
Value.int IntKind.i64 g.fst = Value.int IntKind.i64 x ∧
(x = if g.fst < g.snd.fst then g.snd.fst else if g.fst > g.snd.snd then g.snd.snd else g.fst) ∧ w = w))) :
    (sInto).Ok Tryd.prog 70 :=
  ok_of_vc sInto (annOf []) [] (fun _ _ => rfl) (fun _ _ => rfl) hsp Tryd.func70 rfl (n := 3) (fun _ => rfl) (by kernel_rfl) (vcast (by kernel_rfl) h)

end Go.Proofs.YthpjkgoahneldaaDoor
end

section
/-
  Verification conditions, printed by a program out of the specifications beside this text: each theorem says that the condition suffices. (Lean's kernel compares the printed condition with what 'wpE' computes.)
-/
set_option linter.unusedVariables false
namespace Go.Proofs.YthpjkgoahneldaaDoor
open Go Go.RowKit Vc Tb Cl

set_option maxRecDepth 1000000 in
theorem regional_vc (hsp : SpecsOk Tryd.prog []) (h : ∀ (g : Int) (w : World),
True →
∃ (x : Bool),
Value.bool (decide ((127462 : Int) ≤ g) && decide (g ≤ (127487 : Int))) = Value.bool x ∧ x = regB g ∧ Ext w w) :
    ((sRB regB)).Ok Tryd.prog 109 :=
  ok_of_vc (sRB regB) (annOf []) [] (fun _ _ => rfl) (fun _ _ => rfl) hsp Tryd.func109 rfl (n := 1) (fun _ => rfl) (by kernel_rfl) (vcast (by kernel_rfl) h)

set_option maxRecDepth 1000000 in
theorem joiner_vc (hsp : SpecsOk Tryd.prog []) (h : ∀ (g : Int) (w : World),
True → ∃ (x : Bool), Value.bool (g == (8204 : Int) || g == (8205 : Int)) = Value.bool x ∧ x = joinB g ∧ Ext w w) :
    ((sRB joinB)).Ok Tryd.prog 108 :=
  ok_of_vc (sRB joinB) (annOf []) [] (fun _ _ => rfl) (fun _ _ => rfl) hsp Tryd.func108 rfl (n := 1) (fun _ => rfl) (by kernel_rfl) (vcast (by kernel_rfl) h)

set_option maxRecDepth 1000000 in
theorem picture_vc (hsp : SpecsOk Tryd.prog spPic) (h : ∀ (g : Int) (w : World),
True →
∃ (g1 : Int),
#[Value.int IntKind.i32 g] = #[Value.int IntKind.i32 g1] ∧
True ∧
∀ (x : Int) (w' : World),
x = kindR g1 ∧ Ext w w' →
bcase (x == (7 : Int))
(∃ (g2 : Int × Bool),
#[Value.int IntKind.i32 g, Value.bool false] = #[Value.int IntKind.i32 g2.fst, Value.bool g2.snd] ∧
True ∧
∀ (x1 : Int) (w'1 : World),
x1 = wideR g2.fst g2.snd ∧ Ext w' w'1 →
∃ (x2 : Bool), Value.bool (x1 == (2 : Int)) = Value.bool x2 ∧ x2 = picB g ∧ Ext w w'1)
(∃ (x1 : Bool), Value.bool false = Value.bool x1 ∧ x1 = picB g ∧ Ext w w')) :
    ((sRB picB)).Ok Tryd.prog 110 :=
  ok_of_vc (sRB picB) (annOf spPic) spPic (fun _ _ => rfl) (fun _ _ => rfl) hsp Tryd.func110 rfl (n := 1) (fun _ => rfl) (by kernel_rfl) (vcast (by kernel_rfl) h)

set_option maxRecDepth 1000000 in
theorem alone_vc (hsp : SpecsOk Tryd.prog spAlone) (h : ∀ (g : Int) (w : World),
True →
∃ (g1 : Int),
#[Value.int IntKind.i32 g] = #[Value.int IntKind.i32 g1] ∧
True ∧
∀ (x : Int) (w' : World),
x = kindR g1 ∧ Ext w w' →
bcase (x == (0 : Int)) (∃ (x1 : Bool), Value.bool true = Value.bool x1 ∧ x1 = aloneB g ∧ Ext w w')
(bcase (x == (1 : Int))
(∃ (g2 : Int),
#[Value.int IntKind.i32 g] = #[Value.int IntKind.i32 g2] ∧
True ∧
∀ (x1 : Bool) (w'1 : World),
x1 = joinB g2 ∧ Ext w' w'1 → ∃ (x2 : Bool), (Value.bool !x1) = Value.bool x2 ∧ x2 = aloneB g ∧ Ext w w'1)
(∃ (x1 : Bool), Value.bool (g == (8232 : Int) || g == (8233 : Int)) = Value.bool x1 ∧ x1 = aloneB g ∧ Ext w w'))) :
    ((sRB aloneB)).Ok Tryd.prog 107 :=
  ok_of_vc (sRB aloneB) (annOf spAlone) spAlone (fun _ _ => rfl) (fun _ _ => rfl) hsp Tryd.func107 rfl (n := 1) (fun _ => rfl) (by kernel_rfl) (vcast (by kernel_rfl) h)

set_option maxRecDepth 1000000 in
theorem part_vc (hsp : SpecsOk Tryd.prog []) (h : ∀ (g : Int) (w : World),
True →
bcase (decide (g < (4352 : Int)) || decide (g > (55203 : Int)))
(∃ (x : Nat), Value.int IntKind.i64 (0 : Int) = Value.int IntKind.i64 (↑x : Int) ∧ x = partP g ∧ Ext w w)
(bcase (decide (g ≤ (4447 : Int)))
(∃ (x : Nat), Value.int IntKind.i64 (1 : Int) = Value.int IntKind.i64 (↑x : Int) ∧ x = partP g ∧ Ext w w)
(bcase (decide (g ≤ (4519 : Int)))
(∃ (x : Nat), Value.int IntKind.i64 (2 : Int) = Value.int IntKind.i64 (↑x : Int) ∧ x = partP g ∧ Ext w w)
(bcase (decide (g ≤ (4607 : Int)))
(∃ (x : Nat), Value.int IntKind.i64 (4 : Int) = Value.int IntKind.i64 (↑x : Int) ∧ x = partP g ∧ Ext w w)
(bcase (decide (g < (44032 : Int)))
(∃ (x : Nat), Value.int IntKind.i64 (0 : Int) = Value.int IntKind.i64 (↑x : Int) ∧ x = partP g ∧ Ext w w)
(InR IntKind.i32 (g - (44032 : Int)) ∧
(0 : Int) ≤ g - (44032 : Int) ∧
(0 : Int) < (28 : Int) ∧
bcase ((g - (44032 : Int)) % (28 : Int) == (0 : Int))
(∃ (x : Nat), Value.int IntKind.i64 (8 : Int) = Value.int IntKind.i64 (↑x : Int) ∧ x = partP g ∧ Ext w w)
(∃ (x : Nat), Value.int IntKind.i64 (16 : Int) = Value.int IntKind.i64 (↑x : Int) ∧ x = partP g ∧ Ext w w))))))) :
    ((sRN partP)).Ok Tryd.prog 131 :=
  ok_of_vc (sRN partP) (annOf []) [] (fun _ _ => rfl) (fun _ _ => rfl) hsp Tryd.func131 rfl (n := 1) (fun _ => rfl) (by kernel_rfl) (vcast (by kernel_rfl) h)

set_option maxRecDepth 1000000 in
theorem goesP_vc (hsp : SpecsOk Tryd.prog spGoes) (h : ∀ (g : Int × Int) (w : World),
True →
∃ (g1 : Int),
#[Value.int IntKind.i32 g.fst] = #[Value.int IntKind.i32 g1] ∧
True ∧
∀ (x : Nat) (w' : World),
x = partP g1 ∧ Ext w w' →
bcase ((↑x : Int) == (1 : Int))
(∃ (g2 : Int),
#[Value.int IntKind.i32 g.snd] = #[Value.int IntKind.i32 g2] ∧
True ∧
∀ (x1 : Nat) (w'1 : World),
x1 = partP g2 ∧ Ext w' w'1 →
∃ (x2 : Bool),
Value.bool
(IntKind.i64.wrap
(↑(BitVec.ofInt IntKind.i64.bits (27 : Int) &&& BitVec.ofInt IntKind.i64.bits (↑x1 : Int)).toNat : Int) !=
(0 : Int)) =
Value.bool x2 ∧
x2 = sylB g.fst g.snd ∧ Ext w w'1)
(bcase ((↑x : Int) == (2 : Int) || (↑x : Int) == (8 : Int))
(∃ (g2 : Int),
#[Value.int IntKind.i32 g.snd] = #[Value.int IntKind.i32 g2] ∧
True ∧
∀ (x1 : Nat) (w'1 : World),
x1 = partP g2 ∧ Ext w' w'1 →
∃ (x2 : Bool),
Value.bool
(IntKind.i64.wrap
(↑(BitVec.ofInt IntKind.i64.bits (6 : Int) &&& BitVec.ofInt IntKind.i64.bits (↑x1 : Int)).toNat : Int) !=
(0 : Int)) =
Value.bool x2 ∧
x2 = sylB g.fst g.snd ∧ Ext w w'1)
(bcase ((↑x : Int) == (4 : Int) || (↑x : Int) == (16 : Int))
(∃ (g2 : Int),
#[Value.int IntKind.i32 g.snd] = #[Value.int IntKind.i32 g2] ∧
True ∧
∀ (x1 : Nat) (w'1 : World),
x1 = partP g2 ∧ Ext w' w'1 →
∃ (x2 : Bool),
Value.bool
(IntKind.i64.wrap
(↑(BitVec.ofInt IntKind.i64.bits (4 : Int) &&& BitVec.ofInt IntKind.i64.bits (↑x1 : Int)).toNat : Int) !=
(0 : Int)) =
Value.bool x2 ∧
x2 = sylB g.fst g.snd ∧ Ext w w'1)
(∃ (g2 : Int),
#[Value.int IntKind.i32 g.snd] = #[Value.int IntKind.i32 g2] ∧
True ∧
∀ (x1 : Nat) (w'1 : World),
x1 = partP g2 ∧ Ext w' w'1 → ∃ (x2 : Bool), Value.bool false = Value.bool x2 ∧ x2 = sylB g.fst g.snd ∧ Ext w w'1)))) :
    ((sTwoB sylB)).Ok Tryd.prog 111 :=
  ok_of_vc (sTwoB sylB) (annOf spGoes) spGoes (fun _ _ => rfl) (fun _ _ => rfl) hsp Tryd.func111 rfl (n := 2) (fun _ => rfl) (by kernel_rfl) (vcast (by kernel_rfl) h)

set_option maxRecDepth 1000000 in
theorem rregional_vc (hsp : SpecsOk Tryd.prog []) (h : ∀ (g : Int) (w : World),
True →
∃ (x : Bool),
Value.bool (decide (g ≥ (127462 : Int)) && decide (g ≤ (127487 : Int))) = Value.bool x ∧ x = regB g ∧ Ext w w) :
    ((sRB regB)).Ok Tryd.prog 121 :=
  ok_of_vc (sRB regB) (annOf []) [] (fun _ _ => rfl) (fun _ _ => rfl) hsp Tryd.func121 rfl (n := 1) (fun _ => rfl) (by kernel_rfl) (vcast (by kernel_rfl) h)

set_option maxRecDepth 1000000 in
theorem rjoiner_vc (hsp : SpecsOk Tryd.prog []) (h : ∀ (g : Int) (w : World),
True → ∃ (x : Bool), Value.bool (g == (8204 : Int) || g == (8205 : Int)) = Value.bool x ∧ x = joinB g ∧ Ext w w) :
    ((sRB joinB)).Ok Tryd.prog 118 :=
  ok_of_vc (sRB joinB) (annOf []) [] (fun _ _ => rfl) (fun _ _ => rfl) hsp Tryd.func118 rfl (n := 1) (fun _ => rfl) (by kernel_rfl) (vcast (by kernel_rfl) h)

set_option maxRecDepth 1000000 in
theorem rpicture_vc (hsp : SpecsOk Tryd.prog spRPic) (h : ∀ (g : Int) (w : World),
True →
∃ (g1 : Int),
#[Value.int IntKind.i32 g] = #[Value.int IntKind.i32 g1] ∧
True ∧
∀ (x : Int) (w' : World),
x = kindR g1 ∧ w' = w →
bcase (x == (7 : Int))
(∃ (g2 : Int × Bool),
#[Value.int IntKind.i32 g, Value.bool false] = #[Value.int IntKind.i32 g2.fst, Value.bool g2.snd] ∧
True ∧
∀ (x1 : Int) (w'1 : World),
x1 = wideR g2.fst g2.snd ∧ w'1 = w' →
∃ (x2 : Bool), Value.bool (x1 == (2 : Int)) = Value.bool x2 ∧ x2 = picB g ∧ Ext w w'1)
(∃ (x1 : Bool), Value.bool false = Value.bool x1 ∧ x1 = picB g ∧ Ext w w')) :
    ((sRB picB)).Ok Tryd.prog 141 :=
  ok_of_vc (sRB picB) (annOf spRPic) spRPic (fun _ _ => rfl) (fun _ _ => rfl) hsp Tryd.func141 rfl (n := 1) (fun _ => rfl) (by kernel_rfl) (vcast (by kernel_rfl) h)

set_option maxRecDepth 1000000 in
theorem ralone_vc (hsp : SpecsOk Tryd.prog spRAlone) (h : ∀ (g : Int) (w : World),
True →
∃ (g1 : Int),
#[Value.int IntKind.i32 g] = #[Value.int IntKind.i32 g1] ∧
True ∧
∀ (x : Int) (w' : World),
x = kindR g1 ∧ w' = w →
bcase (x == (0 : Int)) (∃ (x1 : Bool), Value.bool true = Value.bool x1 ∧ x1 = aloneB g ∧ Ext w w')
(bcase (g == (8232 : Int)) (∃ (x1 : Bool), Value.bool true = Value.bool x1 ∧ x1 = aloneB g ∧ Ext w w')
(bcase (g == (8233 : Int)) (∃ (x1 : Bool), Value.bool true = Value.bool x1 ∧ x1 = aloneB g ∧ Ext w w')
(bcase (x == (1 : Int))
(∃ (g2 : Int),
#[Value.int IntKind.i32 g] = #[Value.int IntKind.i32 g2] ∧
True ∧
∀ (x1 : Bool) (w'1 : World),
x1 = joinB g2 ∧ Ext w' w'1 → ∃ (x2 : Bool), (Value.bool !x1) = Value.bool x2 ∧ x2 = aloneB g ∧ Ext w w'1)
(∃ (x1 : Bool), Value.bool false = Value.bool x1 ∧ x1 = aloneB g ∧ Ext w w'))))) :
    ((sRB aloneB)).Ok Tryd.prog 124 :=
  ok_of_vc (sRB aloneB) (annOf spRAlone) spRAlone (fun _ _ => rfl) (fun _ _ => rfl) hsp Tryd.func124 rfl (n := 1) (fun _ => rfl) (by kernel_rfl) (vcast (by kernel_rfl) h)

set_option maxRecDepth 1000000 in
theorem rpart_vc (hsp : SpecsOk Tryd.prog []) (h : ∀ (g : Int) (w : World),
True →
bcase (decide (g ≥ (4352 : Int)) && decide (g ≤ (4447 : Int)))
(∃ (x : Nat), Value.int IntKind.i64 (1 : Int) = Value.int IntKind.i64 (↑x : Int) ∧ x = partN g ∧ Ext w w)
(bcase (decide (g ≥ (4448 : Int)) && decide (g ≤ (4519 : Int)))
(∃ (x : Nat), Value.int IntKind.i64 (2 : Int) = Value.int IntKind.i64 (↑x : Int) ∧ x = partN g ∧ Ext w w)
(bcase (decide (g ≥ (4520 : Int)) && decide (g ≤ (4607 : Int)))
(∃ (x : Nat), Value.int IntKind.i64 (3 : Int) = Value.int IntKind.i64 (↑x : Int) ∧ x = partN g ∧ Ext w w)
(bcase (decide (g ≥ (44032 : Int)))
(bcase (decide (g ≤ (55203 : Int)))
(InR IntKind.i32 (g - (44032 : Int)) ∧
(0 : Int) ≤ g - (44032 : Int) ∧
(0 : Int) < (28 : Int) ∧
bcase ((g - (44032 : Int)) % (28 : Int) == (0 : Int))
(∃ (x : Nat), Value.int IntKind.i64 (4 : Int) = Value.int IntKind.i64 (↑x : Int) ∧ x = partN g ∧ Ext w w)
(bcase (decide (g ≥ (44032 : Int)) && decide (g ≤ (55203 : Int)))
(∃ (x : Nat), Value.int IntKind.i64 (5 : Int) = Value.int IntKind.i64 (↑x : Int) ∧ x = partN g ∧ Ext w w)
(∃ (x : Nat), Value.int IntKind.i64 (0 : Int) = Value.int IntKind.i64 (↑x : Int) ∧ x = partN g ∧ Ext w w)))
(bcase (decide (g ≥ (44032 : Int)) && decide (g ≤ (55203 : Int)))
(∃ (x : Nat), Value.int IntKind.i64 (5 : Int) = Value.int IntKind.i64 (↑x : Int) ∧ x = partN g ∧ Ext w w)
(∃ (x : Nat), Value.int IntKind.i64 (0 : Int) = Value.int IntKind.i64 (↑x : Int) ∧ x = partN g ∧ Ext w w)))
(bcase (decide (g ≥ (44032 : Int)) && decide (g ≤ (55203 : Int)))
(∃ (x : Nat), Value.int IntKind.i64 (5 : Int) = Value.int IntKind.i64 (↑x : Int) ∧ x = partN g ∧ Ext w w)
(∃ (x : Nat), Value.int IntKind.i64 (0 : Int) = Value.int IntKind.i64 (↑x : Int) ∧ x = partN g ∧ Ext w w)))))) :
    ((sRN partN)).Ok Tryd.prog 150 :=
  ok_of_vc (sRN partN) (annOf []) [] (fun _ _ => rfl) (fun _ _ => rfl) hsp Tryd.func150 rfl (n := 1) (fun _ => rfl) (by kernel_rfl) (vcast (by kernel_rfl) h)

set_option maxRecDepth 1000000 in
theorem syl_vc (hsp : SpecsOk Tryd.prog spSyl) (h : ∀ (g : Int × Int) (w : World),
True →
∃ (g1 : Int),
#[Value.int IntKind.i32 g.fst] = #[Value.int IntKind.i32 g1] ∧
True ∧
∀ (x : Nat) (w' : World),
x = partN g1 ∧ Ext w w' →
∃ (g2 : Int),
#[Value.int IntKind.i32 g.snd] = #[Value.int IntKind.i32 g2] ∧
True ∧
∀ (x1 : Nat) (w'1 : World),
x1 = partN g2 ∧ Ext w' w'1 →
bcase ((↑x : Int) == (1 : Int))
(∃ (x2 : Bool),
Value.bool
((↑x1 : Int) == (1 : Int) || ((↑x1 : Int) == (2 : Int) || ((↑x1 : Int) == (4 : Int) || (↑x1 : Int) == (5 : Int)))) =
Value.bool x2 ∧
x2 = sylB g.fst g.snd ∧ Ext w w'1)
(bcase ((↑x : Int) == (2 : Int) || (↑x : Int) == (4 : Int))
(∃ (x2 : Bool),
Value.bool ((↑x1 : Int) == (2 : Int) || (↑x1 : Int) == (3 : Int)) = Value.bool x2 ∧ x2 = sylB g.fst g.snd ∧ Ext w w'1)
(bcase ((↑x : Int) == (3 : Int) || (↑x : Int) == (5 : Int))
(∃ (x2 : Bool), Value.bool ((↑x1 : Int) == (3 : Int)) = Value.bool x2 ∧ x2 = sylB g.fst g.snd ∧ Ext w w'1)
(∃ (x2 : Bool), Value.bool false = Value.bool x2 ∧ x2 = sylB g.fst g.snd ∧ Ext w w'1)))) :
    ((sTwoB sylB)).Ok Tryd.prog 142 :=
  ok_of_vc (sTwoB sylB) (annOf spSyl) spSyl (fun _ _ => rfl) (fun _ _ => rfl) hsp Tryd.func142 rfl (n := 2) (fun _ => rfl) (by kernel_rfl) (vcast (by kernel_rfl) h)

set_option maxRecDepth 1000000 in
theorem takes_vc (hsp : SpecsOk Tryd.prog spTakes) (h : ∀ (g : GTk) (w : World),
True →
∃ (g1 : Int),
#[Value.int IntKind.i32 g.y] = #[Value.int IntKind.i32 g1] ∧
True ∧
∀ (x : Int) (w' : World),
x = kindR g1 ∧ w' = w →
bcase (x == (2 : Int)) (∃ (x1 : Bool), Value.bool true = Value.bool x1 ∧ x1 = takesB g.x g.z g.y g.n ∧ Ext w w')
(∃ (g2 : Int),
#[Value.int IntKind.i32 g.y] = #[Value.int IntKind.i32 g2] ∧
True ∧
∀ (x1 : Bool) (w'1 : World),
x1 = joinB g2 ∧ Ext w' w'1 →
bcase x1 (∃ (x2 : Bool), Value.bool true = Value.bool x2 ∧ x2 = takesB g.x g.z g.y g.n ∧ Ext w w'1)
(bcase ((↑g.n : Int) == (1 : Int))
(∃ (g3 : Int),
#[Value.int IntKind.i32 g.x] = #[Value.int IntKind.i32 g3] ∧
True ∧
∀ (x2 : Bool) (w'2 : World),
x2 = regB g3 ∧ Ext w'1 w'2 →
bcase x2
(∃ (g4 : Int),
#[Value.int IntKind.i32 g.y] = #[Value.int IntKind.i32 g4] ∧
True ∧
∀ (x3 : Bool) (w'3 : World),
x3 = regB g4 ∧ Ext w'2 w'3 →
bcase x3 (∃ (x4 : Bool), Value.bool true = Value.bool x4 ∧ x4 = takesB g.x g.z g.y g.n ∧ Ext w w'3)
(bcase (g.z == (8205 : Int))
(∃ (g5 : Int),
#[Value.int IntKind.i32 g.x] = #[Value.int IntKind.i32 g5] ∧
True ∧
∀ (x4 : Bool) (w'4 : World),
x4 = picB g5 ∧ Ext w'3 w'4 →
bcase x4
(∃ (g6 : Int),
#[Value.int IntKind.i32 g.y] = #[Value.int IntKind.i32 g6] ∧
True ∧
∀ (x5 : Bool) (w'5 : World),
x5 = picB g6 ∧ Ext w'4 w'5 →
bcase x5 (∃ (x6 : Bool), Value.bool true = Value.bool x6 ∧ x6 = takesB g.x g.z g.y g.n ∧ Ext w w'5)
(∃ (g7 : Int × Int),
#[Value.int IntKind.i32 g.z, Value.int IntKind.i32 g.y] =
#[Value.int IntKind.i32 g7.fst, Value.int IntKind.i32 g7.snd] ∧
True ∧
∀ (x6 : Bool) (w'6 : World),
x6 = sylB g7.fst g7.snd ∧ Ext w'5 w'6 →
∃ (x7 : Bool), Value.bool x6 = Value.bool x7 ∧ x7 = takesB g.x g.z g.y g.n ∧ Ext w w'6))
(∃ (g6 : Int × Int),
#[Value.int IntKind.i32 g.z, Value.int IntKind.i32 g.y] =
#[Value.int IntKind.i32 g6.fst, Value.int IntKind.i32 g6.snd] ∧
True ∧
∀ (x5 : Bool) (w'5 : World),
x5 = sylB g6.fst g6.snd ∧ Ext w'4 w'5 →
∃ (x6 : Bool), Value.bool x5 = Value.bool x6 ∧ x6 = takesB g.x g.z g.y g.n ∧ Ext w w'5))
(∃ (g5 : Int × Int),
#[Value.int IntKind.i32 g.z, Value.int IntKind.i32 g.y] =
#[Value.int IntKind.i32 g5.fst, Value.int IntKind.i32 g5.snd] ∧
True ∧
∀ (x4 : Bool) (w'4 : World),
x4 = sylB g5.fst g5.snd ∧ Ext w'3 w'4 →
∃ (x5 : Bool), Value.bool x4 = Value.bool x5 ∧ x5 = takesB g.x g.z g.y g.n ∧ Ext w w'4)))
(bcase (g.z == (8205 : Int))
(∃ (g4 : Int),
#[Value.int IntKind.i32 g.x] = #[Value.int IntKind.i32 g4] ∧
True ∧
∀ (x3 : Bool) (w'3 : World),
x3 = picB g4 ∧ Ext w'2 w'3 →
bcase x3
(∃ (g5 : Int),
#[Value.int IntKind.i32 g.y] = #[Value.int IntKind.i32 g5] ∧
True ∧
∀ (x4 : Bool) (w'4 : World),
x4 = picB g5 ∧ Ext w'3 w'4 →
bcase x4 (∃ (x5 : Bool), Value.bool true = Value.bool x5 ∧ x5 = takesB g.x g.z g.y g.n ∧ Ext w w'4)
(∃ (g6 : Int × Int),
#[Value.int IntKind.i32 g.z, Value.int IntKind.i32 g.y] =
#[Value.int IntKind.i32 g6.fst, Value.int IntKind.i32 g6.snd] ∧
True ∧
∀ (x5 : Bool) (w'5 : World),
x5 = sylB g6.fst g6.snd ∧ Ext w'4 w'5 →
∃ (x6 : Bool), Value.bool x5 = Value.bool x6 ∧ x6 = takesB g.x g.z g.y g.n ∧ Ext w w'5))
(∃ (g5 : Int × Int),
#[Value.int IntKind.i32 g.z, Value.int IntKind.i32 g.y] =
#[Value.int IntKind.i32 g5.fst, Value.int IntKind.i32 g5.snd] ∧
True ∧
∀ (x4 : Bool) (w'4 : World),
x4 = sylB g5.fst g5.snd ∧ Ext w'3 w'4 →
∃ (x5 : Bool), Value.bool x4 = Value.bool x5 ∧ x5 = takesB g.x g.z g.y g.n ∧ Ext w w'4))
(∃ (g4 : Int × Int),
#[Value.int IntKind.i32 g.z, Value.int IntKind.i32 g.y] =
#[Value.int IntKind.i32 g4.fst, Value.int IntKind.i32 g4.snd] ∧
True ∧
∀ (x3 : Bool) (w'3 : World),
x3 = sylB g4.fst g4.snd ∧ Ext w'2 w'3 →
∃ (x4 : Bool), Value.bool x3 = Value.bool x4 ∧ x4 = takesB g.x g.z g.y g.n ∧ Ext w w'3)))
(bcase (g.z == (8205 : Int))
(∃ (g3 : Int),
#[Value.int IntKind.i32 g.x] = #[Value.int IntKind.i32 g3] ∧
True ∧
∀ (x2 : Bool) (w'2 : World),
x2 = picB g3 ∧ Ext w'1 w'2 →
bcase x2
(∃ (g4 : Int),
#[Value.int IntKind.i32 g.y] = #[Value.int IntKind.i32 g4] ∧
True ∧
∀ (x3 : Bool) (w'3 : World),
x3 = picB g4 ∧ Ext w'2 w'3 →
bcase x3 (∃ (x4 : Bool), Value.bool true = Value.bool x4 ∧ x4 = takesB g.x g.z g.y g.n ∧ Ext w w'3)
(∃ (g5 : Int × Int),
#[Value.int IntKind.i32 g.z, Value.int IntKind.i32 g.y] =
#[Value.int IntKind.i32 g5.fst, Value.int IntKind.i32 g5.snd] ∧
True ∧
∀ (x4 : Bool) (w'4 : World),
x4 = sylB g5.fst g5.snd ∧ Ext w'3 w'4 →
∃ (x5 : Bool), Value.bool x4 = Value.bool x5 ∧ x5 = takesB g.x g.z g.y g.n ∧ Ext w w'4))
(∃ (g4 : Int × Int),
#[Value.int IntKind.i32 g.z, Value.int IntKind.i32 g.y] =
#[Value.int IntKind.i32 g4.fst, Value.int IntKind.i32 g4.snd] ∧
True ∧
∀ (x3 : Bool) (w'3 : World),
x3 = sylB g4.fst g4.snd ∧ Ext w'2 w'3 →
∃ (x4 : Bool), Value.bool x3 = Value.bool x4 ∧ x4 = takesB g.x g.z g.y g.n ∧ Ext w w'3))
(∃ (g3 : Int × Int),
#[Value.int IntKind.i32 g.z, Value.int IntKind.i32 g.y] =
#[Value.int IntKind.i32 g3.fst, Value.int IntKind.i32 g3.snd] ∧
True ∧
∀ (x2 : Bool) (w'2 : World),
x2 = sylB g3.fst g3.snd ∧ Ext w'1 w'2 →
∃ (x3 : Bool), Value.bool x2 = Value.bool x3 ∧ x3 = takesB g.x g.z g.y g.n ∧ Ext w w'2))))) :
    (sTakes).Ok Tryd.prog 125 :=
  ok_of_vc sTakes (annOf spTakes) spTakes (fun _ _ => rfl) (fun _ _ => rfl) hsp Tryd.func125 rfl (n := 4) (fun _ => rfl) (by kernel_rfl) (vcast (by kernel_rfl) h)

end Go.Proofs.YthpjkgoahneldaaDoor
end

section
/-
  Verification conditions, printed by a program out of the specifications beside this text: each theorem says that the condition suffices. (Lean's kernel compares the printed condition with what 'wpE' computes.)
-/
set_option linter.unusedVariables false
namespace Go.Proofs.YthpjkgoahneldaaDoor
open Go Go.RowKit Vc Tb Cl

set_option maxRecDepth 1000000 in
theorem known_vc (hsp : SpecsOk Tryd.prog []) (h : ∀ (g : Int) (w : World),
True →
bcase
(decide (g < (0 : Int)) || (decide (g > (1114111 : Int)) || decide (g ≥ (55296 : Int)) && decide (g ≤ (57343 : Int))))
(∃ (x : Int), Value.int IntKind.i32 (65533 : Int) = Value.int IntKind.i32 x ∧ x = knownF g ∧ w = w)
(∃ (x : Int), Value.int IntKind.i32 g = Value.int IntKind.i32 x ∧ x = knownF g ∧ w = w)) :
    ((sRune .i32 knownF)).Ok Tryd.prog 128 :=
  ok_of_vc (sRune .i32 knownF) (annOf []) [] (fun _ _ => rfl) (fun _ _ => rfl) hsp Tryd.func128 rfl (n := 1) (fun _ => rfl) (by kernel_rfl) (vcast (by kernel_rfl) h)

set_option maxRecDepth 1000000 in
theorem find_vc (hsp : SpecsOk Tryd.prog []) (h : ∀ (g : GFind) (w : World),
CellsT w g.b g.T ∧
(0 : Nat) < g.T.length ∧
g.T.length ≤ (1000 : Nat) ∧ boundsOk g.T = true ∧ (g.T.getD (0 : Nat) ((0 : Int), (0 : Int))).fst = (0 : Int) →
bcase
(decide (g.r < (0 : Int)) ||
(decide (g.r > (1114111 : Int)) || decide (g.r ≥ (55296 : Int)) && decide (g.r ≤ (57343 : Int))))
(∃ (c : Unit), Value.int IntKind.i32 (65533 : Int) = Value.int IntKind.i32 (knownF g.r) ∧ w = w)
(∃ (c : Unit), Value.int IntKind.i32 g.r = Value.int IntKind.i32 (knownF g.r) ∧ w = w) ∧
∀ (u : Nat → Value) (c : Unit) (w' : World),
w' = w →
(∃ (x : Nat × Nat),
Value.int IntKind.i64 (0 : Int) = Value.int IntKind.i64 (↑x.fst : Int) ∧
Value.int IntKind.i64 (↑g.T.length : Int) = Value.int IntKind.i64 (↑x.snd : Int) ∧
x.fst < x.snd ∧
x.snd ≤ g.T.length ∧
(g.T.getD x.fst ((0 : Int), (0 : Int))).fst ≤ knownF g.r ∧
(x.snd = g.T.length ∨ knownF g.r < (g.T.getD x.snd ((0 : Int), (0 : Int))).fst) ∧ w' = w') ∧
∀ (u1 : Nat → Value) (x : Nat × Nat) (w'1 : World),
x.fst < x.snd ∧
x.snd ≤ g.T.length ∧
(g.T.getD x.fst ((0 : Int), (0 : Int))).fst ≤ knownF g.r ∧
(x.snd = g.T.length ∨ knownF g.r < (g.T.getD x.snd ((0 : Int), (0 : Int))).fst) ∧ w'1 = w' →
InR IntKind.i64 ((↑x.snd : Int) - (↑x.fst : Int)) ∧
bcase (decide ((↑x.snd : Int) - (↑x.fst : Int) > (1 : Int)))
(InR IntKind.i64 ((↑x.fst : Int) + (↑x.snd : Int)) ∧
(0 : Int) ≤ (↑x.fst : Int) + (↑x.snd : Int) ∧
(0 : Int) < (2 : Int) ∧
InR IntKind.i64 (((↑x.fst : Int) + (↑x.snd : Int)) / (2 : Int)) ∧
∃ (k : Nat),
((↑x.fst : Int) + (↑x.snd : Int)) / (2 : Int) = (↑k : Int) ∧
k < g.T.length ∧
∃ (n : Int),
w'1.cell? { block := g.b, off := (0 : Nat) + k * (2 : Nat) } = some (Value.int IntKind.i32 n) ∧
bcase (decide (n > knownF g.r))
(∃ (y : Nat × Nat),
Value.int IntKind.i64 (↑x.fst : Int) = Value.int IntKind.i64 (↑y.fst : Int) ∧
Value.int IntKind.i64 (((↑x.fst : Int) + (↑x.snd : Int)) / (2 : Int)) = Value.int IntKind.i64 (↑y.snd : Int) ∧
(y.fst < y.snd ∧
y.snd ≤ g.T.length ∧
(g.T.getD y.fst ((0 : Int), (0 : Int))).fst ≤ knownF g.r ∧
(y.snd = g.T.length ∨ knownF g.r < (g.T.getD y.snd ((0 : Int), (0 : Int))).fst) ∧ w'1 = w') ∧
y.snd - y.fst < x.snd - x.fst)
(∃ (y : Nat × Nat),
Value.int IntKind.i64 (((↑x.fst : Int) + (↑x.snd : Int)) / (2 : Int)) = Value.int IntKind.i64 (↑y.fst : Int) ∧
Value.int IntKind.i64 (↑x.snd : Int) = Value.int IntKind.i64 (↑y.snd : Int) ∧
(y.fst < y.snd ∧
y.snd ≤ g.T.length ∧
(g.T.getD y.fst ((0 : Int), (0 : Int))).fst ≤ knownF g.r ∧
(y.snd = g.T.length ∨ knownF g.r < (g.T.getD y.snd ((0 : Int), (0 : Int))).fst) ∧ w'1 = w') ∧
y.snd - y.fst < x.snd - x.fst))
(bcase (decide ((↑x.snd : Int) < (↑g.T.length : Int)))
(∀ (w1 : World),
Drew w'1 w1 →
∃ (k : Nat),
(↑x.fst : Int) = (↑k : Int) ∧
k < g.T.length ∧
∃ (n : Int),
w'1.cell? { block := g.b, off := (0 : Nat) + k * (2 : Nat) + (1 : Nat) } = some (Value.int IntKind.u8 n) ∧
∃ (k1 : Nat),
(↑x.snd : Int) = (↑k1 : Int) ∧
k1 < g.T.length ∧
∃ (n1 : Int),
w'1.cell? { block := g.b, off := (0 : Nat) + k1 * (2 : Nat) } = some (Value.int IntKind.i32 n1) ∧
InR IntKind.i32 (n1 - (1 : Int)) ∧
∃ (x1 : Int × Int),
Value.tuple #[Value.int IntKind.u8 n, Value.int IntKind.i32 (n1 - (1 : Int))] =
Value.tuple #[Value.int IntKind.u8 x1.fst, Value.int IntKind.i32 x1.snd] ∧
FindOk g.T (knownF g.r) x1.fst x1.snd ∧ Ext w w1)
(∃ (k : Nat),
(↑x.fst : Int) = (↑k : Int) ∧
k < g.T.length ∧
∃ (n : Int),
w'1.cell? { block := g.b, off := (0 : Nat) + k * (2 : Nat) + (1 : Nat) } = some (Value.int IntKind.u8 n) ∧
∃ (x1 : Int × Int),
Value.tuple #[Value.int IntKind.u8 n, Value.int IntKind.i32 (1114111 : Int)] =
Value.tuple #[Value.int IntKind.u8 x1.fst, Value.int IntKind.i32 x1.snd] ∧
FindOk g.T (knownF g.r) x1.fst x1.snd ∧ Ext w w'1))) :
    (sFind).Ok Tryd.prog 130 :=
  ok_of_vc sFind (fun g _ => annFind g) [] (fun _ _ => rfl) (fun _ _ => rfl) hsp Tryd.func130 rfl (n := 2) (fun _ => rfl) (by kernel_rfl) (vcast (by kernel_rfl) h)

set_option maxRecDepth 1000000 in
theorem rkind_vc (hsp : SpecsOk Tryd.prog spKnown) (h : ∀ (g : Int) (w : World),
True →
∃ (g1 : Int),
#[Value.int IntKind.i32 g] = #[Value.int IntKind.i32 g1] ∧
True ∧
∀ (x : Int) (w' : World),
x = knownF g1 ∧ w' = w →
bcase (decide (x ≤ (31 : Int)) || decide (x ≥ (127 : Int)) && decide (x ≤ (159 : Int)))
(∃ (x1 : Int), Value.int IntKind.i8 (0 : Int) = Value.int IntKind.i8 x1 ∧ x1 = kindR g ∧ w' = w)
(bcase
(x == (173 : Int) ||
(x == (1564 : Int) ||
(decide (x ≥ (8203 : Int)) && decide (x ≤ (8207 : Int)) ||
(decide (x ≥ (8234 : Int)) && decide (x ≤ (8238 : Int)) ||
(decide (x ≥ (8288 : Int)) && decide (x ≤ (8297 : Int)) || x == (65279 : Int))))))
(∃ (x1 : Int), Value.int IntKind.i8 (1 : Int) = Value.int IntKind.i8 x1 ∧ x1 = kindR g ∧ w' = w)
(bcase
(decide (x ≥ (768 : Int)) && decide (x ≤ (879 : Int)) ||
(decide (x ≥ (1155 : Int)) && decide (x ≤ (1161 : Int)) ||
(decide (x ≥ (1425 : Int)) && decide (x ≤ (1469 : Int)) ||
(x == (1471 : Int) ||
(decide (x ≥ (1473 : Int)) && decide (x ≤ (1474 : Int)) ||
(decide (x ≥ (1476 : Int)) && decide (x ≤ (1477 : Int)) ||
(x == (1479 : Int) ||
(decide (x ≥ (1552 : Int)) && decide (x ≤ (1562 : Int)) ||
(decide (x ≥ (1611 : Int)) && decide (x ≤ (1631 : Int)) ||
(x == (1648 : Int) ||
(decide (x ≥ (1750 : Int)) && decide (x ≤ (1756 : Int)) ||
(decide (x ≥ (1759 : Int)) && decide (x ≤ (1764 : Int)) ||
(decide (x ≥ (1767 : Int)) && decide (x ≤ (1768 : Int)) ||
(decide (x ≥ (1770 : Int)) && decide (x ≤ (1773 : Int)) ||
(x == (3633 : Int) ||
(decide (x ≥ (3636 : Int)) && decide (x ≤ (3642 : Int)) ||
(decide (x ≥ (3655 : Int)) && decide (x ≤ (3662 : Int)) ||
(decide (x ≥ (6832 : Int)) && decide (x ≤ (6911 : Int)) ||
(decide (x ≥ (7616 : Int)) && decide (x ≤ (7679 : Int)) ||
(decide (x ≥ (8400 : Int)) && decide (x ≤ (8447 : Int)) ||
(decide (x ≥ (12330 : Int)) && decide (x ≤ (12333 : Int)) ||
(decide (x ≥ (12441 : Int)) && decide (x ≤ (12442 : Int)) ||
(decide (x ≥ (65024 : Int)) && decide (x ≤ (65039 : Int)) ||
decide (x ≥ (65056 : Int)) && decide (x ≤ (65071 : Int)))))))))))))))))))))))))
(∃ (x1 : Int), Value.int IntKind.i8 (2 : Int) = Value.int IntKind.i8 x1 ∧ x1 = kindR g ∧ w' = w)
(bcase
(decide (x ≥ (48 : Int)) && decide (x ≤ (57 : Int)) ||
(decide (x ≥ (1632 : Int)) && decide (x ≤ (1641 : Int)) ||
(decide (x ≥ (1776 : Int)) && decide (x ≤ (1785 : Int)) || decide (x ≥ (65296 : Int)) && decide (x ≤ (65305 : Int)))))
(∃ (x1 : Int), Value.int IntKind.i8 (4 : Int) = Value.int IntKind.i8 x1 ∧ x1 = kindR g ∧ w' = w)
(bcase
(x == (32 : Int) ||
(x == (160 : Int) ||
(x == (5760 : Int) ||
(decide (x ≥ (8192 : Int)) && decide (x ≤ (8202 : Int)) ||
(decide (x ≥ (8232 : Int)) && decide (x ≤ (8233 : Int)) ||
(x == (8239 : Int) || (x == (8287 : Int) || x == (12288 : Int))))))))
(∃ (x1 : Int), Value.int IntKind.i8 (5 : Int) = Value.int IntKind.i8 x1 ∧ x1 = kindR g ∧ w' = w)
(bcase
(x == (36 : Int) ||
(x == (43 : Int) ||
(decide (x ≥ (60 : Int)) && decide (x ≤ (62 : Int)) ||
(x == (94 : Int) ||
(x == (96 : Int) ||
(x == (124 : Int) ||
(x == (126 : Int) ||
(decide (x ≥ (162 : Int)) && decide (x ≤ (166 : Int)) ||
(decide (x ≥ (168 : Int)) && decide (x ≤ (169 : Int)) ||
(x == (172 : Int) ||
(decide (x ≥ (174 : Int)) && decide (x ≤ (177 : Int)) ||
(x == (180 : Int) ||
(x == (184 : Int) ||
(x == (215 : Int) ||
(x == (247 : Int) ||
(decide (x ≥ (8352 : Int)) && decide (x ≤ (8399 : Int)) ||
(decide (x ≥ (8448 : Int)) && decide (x ≤ (9675 : Int)) ||
(decide (x ≥ (9677 : Int)) && decide (x ≤ (11263 : Int)) ||
(decide (x ≥ (65532 : Int)) && decide (x ≤ (65533 : Int)) ||
decide (x ≥ (126976 : Int)) && decide (x ≤ (129791 : Int)))))))))))))))))))))
(∃ (x1 : Int), Value.int IntKind.i8 (7 : Int) = Value.int IntKind.i8 x1 ∧ x1 = kindR g ∧ w' = w)
(bcase
(decide (x ≥ (65 : Int)) && decide (x ≤ (90 : Int)) ||
(decide (x ≥ (97 : Int)) && decide (x ≤ (122 : Int)) ||
(x == (170 : Int) ||
(x == (181 : Int) ||
(x == (186 : Int) ||
(decide (x ≥ (192 : Int)) && decide (x ≤ (767 : Int)) ||
(decide (x ≥ (880 : Int)) && decide (x ≤ (883 : Int)) ||
(decide (x ≥ (886 : Int)) && decide (x ≤ (893 : Int)) ||
(x == (895 : Int) ||
(x == (902 : Int) ||
(decide (x ≥ (904 : Int)) && decide (x ≤ (1153 : Int)) ||
(decide (x ≥ (1162 : Int)) && decide (x ≤ (1366 : Int)) ||
(decide (x ≥ (1377 : Int)) && decide (x ≤ (1415 : Int)) ||
(decide (x ≥ (1488 : Int)) && decide (x ≤ (1522 : Int)) ||
(decide (x ≥ (1568 : Int)) && decide (x ≤ (1610 : Int)) ||
(decide (x ≥ (1646 : Int)) && decide (x ≤ (1747 : Int)) ||
(decide (x ≥ (1749 : Int)) && decide (x ≤ (1788 : Int)) ||
(decide (x ≥ (3585 : Int)) && decide (x ≤ (3654 : Int)) ||
(decide (x ≥ (4256 : Int)) && decide (x ≤ (4607 : Int)) ||
(decide (x ≥ (7680 : Int)) && decide (x ≤ (8191 : Int)) ||
(decide (x ≥ (11264 : Int)) && decide (x ≤ (11743 : Int)) ||
(decide (x ≥ (12293 : Int)) && decide (x ≤ (12295 : Int)) ||
(decide (x ≥ (12353 : Int)) && decide (x ≤ (12543 : Int)) ||
(decide (x ≥ (12549 : Int)) && decide (x ≤ (12686 : Int)) ||
(decide (x ≥ (13312 : Int)) && decide (x ≤ (19903 : Int)) ||
(decide (x ≥ (19968 : Int)) && decide (x ≤ (40959 : Int)) ||
(decide (x ≥ (44032 : Int)) && decide (x ≤ (55203 : Int)) ||
(decide (x ≥ (63744 : Int)) && decide (x ≤ (64255 : Int)) ||
(decide (x ≥ (64285 : Int)) && decide (x ≤ (65019 : Int)) ||
(decide (x ≥ (65136 : Int)) && decide (x ≤ (65276 : Int)) ||
(decide (x ≥ (65313 : Int)) && decide (x ≤ (65338 : Int)) ||
(decide (x ≥ (65345 : Int)) && decide (x ≤ (65370 : Int)) ||
(decide (x ≥ (65382 : Int)) && decide (x ≤ (65500 : Int)) ||
decide (x ≥ (131072 : Int)) && decide (x ≤ (262141 : Int)))))))))))))))))))))))))))))))))))
(∃ (x1 : Int), Value.int IntKind.i8 (3 : Int) = Value.int IntKind.i8 x1 ∧ x1 = kindR g ∧ w' = w)
(bcase
(decide (x ≥ (33 : Int)) && decide (x ≤ (64 : Int)) ||
(decide (x ≥ (91 : Int)) && decide (x ≤ (96 : Int)) ||
(decide (x ≥ (123 : Int)) && decide (x ≤ (126 : Int)) ||
(decide (x ≥ (161 : Int)) && decide (x ≤ (191 : Int)) ||
(x == (894 : Int) ||
(x == (903 : Int) ||
(decide (x ≥ (1417 : Int)) && decide (x ≤ (1418 : Int)) ||
(decide (x ≥ (1470 : Int)) && decide (x ≤ (1478 : Int)) ||
(decide (x ≥ (1523 : Int)) && decide (x ≤ (1524 : Int)) ||
(decide (x ≥ (1548 : Int)) && decide (x ≤ (1549 : Int)) ||
(decide (x ≥ (1563 : Int)) && decide (x ≤ (1567 : Int)) ||
(decide (x ≥ (1642 : Int)) && decide (x ≤ (1645 : Int)) ||
(x == (1748 : Int) ||
(decide (x ≥ (8208 : Int)) && decide (x ≤ (8286 : Int)) ||
(x == (9676 : Int) ||
(decide (x ≥ (12289 : Int)) && decide (x ≤ (12291 : Int)) ||
(decide (x ≥ (12296 : Int)) && decide (x ≤ (12319 : Int)) ||
(decide (x ≥ (65281 : Int)) && decide (x ≤ (65312 : Int)) ||
(decide (x ≥ (65339 : Int)) && decide (x ≤ (65344 : Int)) ||
decide (x ≥ (65371 : Int)) && decide (x ≤ (65381 : Int)))))))))))))))))))))
(∃ (x1 : Int), Value.int IntKind.i8 (6 : Int) = Value.int IntKind.i8 x1 ∧ x1 = kindR g ∧ w' = w)
(∃ (x1 : Int), Value.int IntKind.i8 (8 : Int) = Value.int IntKind.i8 x1 ∧ x1 = kindR g ∧ w' = w))))))))) :
    ((sRune .i8 kindR)).Ok Tryd.prog 102 :=
  ok_of_vc (sRune .i8 kindR) (annOf spKnown) spKnown (fun _ _ => rfl) (fun _ _ => rfl) hsp Tryd.func102 rfl (n := 1) (fun _ => rfl) (by kernel_rfl) (vcast (by kernel_rfl) h)

set_option maxRecDepth 1000000 in
theorem kinds_vc (hsp : SpecsOk Tryd.prog spFind) (h : ∀ (g : Int) (w : World),
True →
∀ (b : Nat) (w1 : World),
New w
(Obj.cells
#[Value.int IntKind.i32 (0 : Int), Value.int IntKind.u8 (0 : Int), Value.int IntKind.i32 (32 : Int),
Value.int IntKind.u8 (5 : Int), Value.int IntKind.i32 (33 : Int), Value.int IntKind.u8 (6 : Int),
Value.int IntKind.i32 (36 : Int), Value.int IntKind.u8 (7 : Int), Value.int IntKind.i32 (37 : Int),
Value.int IntKind.u8 (6 : Int), Value.int IntKind.i32 (43 : Int), Value.int IntKind.u8 (7 : Int),
Value.int IntKind.i32 (44 : Int), Value.int IntKind.u8 (6 : Int), Value.int IntKind.i32 (48 : Int),
Value.int IntKind.u8 (4 : Int), Value.int IntKind.i32 (58 : Int), Value.int IntKind.u8 (6 : Int),
Value.int IntKind.i32 (60 : Int), Value.int IntKind.u8 (7 : Int), Value.int IntKind.i32 (63 : Int),
Value.int IntKind.u8 (6 : Int), Value.int IntKind.i32 (65 : Int), Value.int IntKind.u8 (3 : Int),
Value.int IntKind.i32 (91 : Int), Value.int IntKind.u8 (6 : Int), Value.int IntKind.i32 (94 : Int),
Value.int IntKind.u8 (7 : Int), Value.int IntKind.i32 (95 : Int), Value.int IntKind.u8 (6 : Int),
Value.int IntKind.i32 (96 : Int), Value.int IntKind.u8 (7 : Int), Value.int IntKind.i32 (97 : Int),
Value.int IntKind.u8 (3 : Int), Value.int IntKind.i32 (123 : Int), Value.int IntKind.u8 (6 : Int),
Value.int IntKind.i32 (124 : Int), Value.int IntKind.u8 (7 : Int), Value.int IntKind.i32 (125 : Int),
Value.int IntKind.u8 (6 : Int), Value.int IntKind.i32 (126 : Int), Value.int IntKind.u8 (7 : Int),
Value.int IntKind.i32 (127 : Int), Value.int IntKind.u8 (0 : Int), Value.int IntKind.i32 (160 : Int),
Value.int IntKind.u8 (5 : Int), Value.int IntKind.i32 (161 : Int), Value.int IntKind.u8 (6 : Int),
Value.int IntKind.i32 (162 : Int), Value.int IntKind.u8 (7 : Int), Value.int IntKind.i32 (167 : Int),
Value.int IntKind.u8 (6 : Int), Value.int IntKind.i32 (168 : Int), Value.int IntKind.u8 (7 : Int),
Value.int IntKind.i32 (170 : Int), Value.int IntKind.u8 (3 : Int), Value.int IntKind.i32 (171 : Int),
Value.int IntKind.u8 (6 : Int), Value.int IntKind.i32 (172 : Int), Value.int IntKind.u8 (7 : Int),
Value.int IntKind.i32 (173 : Int), Value.int IntKind.u8 (1 : Int), Value.int IntKind.i32 (174 : Int),
Value.int IntKind.u8 (7 : Int), Value.int IntKind.i32 (178 : Int), Value.int IntKind.u8 (6 : Int),
Value.int IntKind.i32 (180 : Int), Value.int IntKind.u8 (7 : Int), Value.int IntKind.i32 (181 : Int),
Value.int IntKind.u8 (3 : Int), Value.int IntKind.i32 (182 : Int), Value.int IntKind.u8 (6 : Int),
Value.int IntKind.i32 (184 : Int), Value.int IntKind.u8 (7 : Int), Value.int IntKind.i32 (185 : Int),
Value.int IntKind.u8 (6 : Int), Value.int IntKind.i32 (186 : Int), Value.int IntKind.u8 (3 : Int),
Value.int IntKind.i32 (187 : Int), Value.int IntKind.u8 (6 : Int), Value.int IntKind.i32 (192 : Int),
Value.int IntKind.u8 (3 : Int), Value.int IntKind.i32 (215 : Int), Value.int IntKind.u8 (7 : Int),
Value.int IntKind.i32 (216 : Int), Value.int IntKind.u8 (3 : Int), Value.int IntKind.i32 (247 : Int),
Value.int IntKind.u8 (7 : Int), Value.int IntKind.i32 (248 : Int), Value.int IntKind.u8 (3 : Int),
Value.int IntKind.i32 (768 : Int), Value.int IntKind.u8 (2 : Int), Value.int IntKind.i32 (880 : Int),
Value.int IntKind.u8 (3 : Int), Value.int IntKind.i32 (884 : Int), Value.int IntKind.u8 (8 : Int),
Value.int IntKind.i32 (886 : Int), Value.int IntKind.u8 (3 : Int), Value.int IntKind.i32 (894 : Int),
Value.int IntKind.u8 (6 : Int), Value.int IntKind.i32 (895 : Int), Value.int IntKind.u8 (3 : Int),
Value.int IntKind.i32 (896 : Int), Value.int IntKind.u8 (8 : Int), Value.int IntKind.i32 (902 : Int),
Value.int IntKind.u8 (3 : Int), Value.int IntKind.i32 (903 : Int), Value.int IntKind.u8 (6 : Int),
Value.int IntKind.i32 (904 : Int), Value.int IntKind.u8 (3 : Int), Value.int IntKind.i32 (1154 : Int),
Value.int IntKind.u8 (8 : Int), Value.int IntKind.i32 (1155 : Int), Value.int IntKind.u8 (2 : Int),
Value.int IntKind.i32 (1162 : Int), Value.int IntKind.u8 (3 : Int), Value.int IntKind.i32 (1367 : Int),
Value.int IntKind.u8 (8 : Int), Value.int IntKind.i32 (1377 : Int), Value.int IntKind.u8 (3 : Int),
Value.int IntKind.i32 (1416 : Int), Value.int IntKind.u8 (8 : Int), Value.int IntKind.i32 (1417 : Int),
Value.int IntKind.u8 (6 : Int), Value.int IntKind.i32 (1419 : Int), Value.int IntKind.u8 (8 : Int),
Value.int IntKind.i32 (1425 : Int), Value.int IntKind.u8 (2 : Int), Value.int IntKind.i32 (1470 : Int),
Value.int IntKind.u8 (6 : Int), Value.int IntKind.i32 (1471 : Int), Value.int IntKind.u8 (2 : Int),
Value.int IntKind.i32 (1472 : Int), Value.int IntKind.u8 (6 : Int), Value.int IntKind.i32 (1473 : Int),
Value.int IntKind.u8 (2 : Int), Value.int IntKind.i32 (1475 : Int), Value.int IntKind.u8 (6 : Int),
Value.int IntKind.i32 (1476 : Int), Value.int IntKind.u8 (2 : Int), Value.int IntKind.i32 (1478 : Int),
Value.int IntKind.u8 (6 : Int), Value.int IntKind.i32 (1479 : Int), Value.int IntKind.u8 (2 : Int),
Value.int IntKind.i32 (1480 : Int), Value.int IntKind.u8 (8 : Int), Value.int IntKind.i32 (1488 : Int),
Value.int IntKind.u8 (3 : Int), Value.int IntKind.i32 (1523 : Int), Value.int IntKind.u8 (6 : Int),
Value.int IntKind.i32 (1525 : Int), Value.int IntKind.u8 (8 : Int), Value.int IntKind.i32 (1548 : Int),
Value.int IntKind.u8 (6 : Int), Value.int IntKind.i32 (1550 : Int), Value.int IntKind.u8 (8 : Int),
Value.int IntKind.i32 (1552 : Int), Value.int IntKind.u8 (2 : Int), Value.int IntKind.i32 (1563 : Int),
Value.int IntKind.u8 (6 : Int), Value.int IntKind.i32 (1564 : Int), Value.int IntKind.u8 (1 : Int),
Value.int IntKind.i32 (1565 : Int), Value.int IntKind.u8 (6 : Int), Value.int IntKind.i32 (1568 : Int),
Value.int IntKind.u8 (3 : Int), Value.int IntKind.i32 (1611 : Int), Value.int IntKind.u8 (2 : Int),
Value.int IntKind.i32 (1632 : Int), Value.int IntKind.u8 (4 : Int), Value.int IntKind.i32 (1642 : Int),
Value.int IntKind.u8 (6 : Int), Value.int IntKind.i32 (1646 : Int), Value.int IntKind.u8 (3 : Int),
Value.int IntKind.i32 (1648 : Int), Value.int IntKind.u8 (2 : Int), Value.int IntKind.i32 (1649 : Int),
Value.int IntKind.u8 (3 : Int), Value.int IntKind.i32 (1748 : Int), Value.int IntKind.u8 (6 : Int),
Value.int IntKind.i32 (1749 : Int), Value.int IntKind.u8 (3 : Int), Value.int IntKind.i32 (1750 : Int),
Value.int IntKind.u8 (2 : Int), Value.int IntKind.i32 (1757 : Int), Value.int IntKind.u8 (3 : Int),
Value.int IntKind.i32 (1759 : Int), Value.int IntKind.u8 (2 : Int), Value.int IntKind.i32 (1765 : Int),
Value.int IntKind.u8 (3 : Int), Value.int IntKind.i32 (1767 : Int), Value.int IntKind.u8 (2 : Int),
Value.int IntKind.i32 (1769 : Int), Value.int IntKind.u8 (3 : Int), Value.int IntKind.i32 (1770 : Int),
Value.int IntKind.u8 (2 : Int), Value.int IntKind.i32 (1774 : Int), Value.int IntKind.u8 (3 : Int),
Value.int IntKind.i32 (1776 : Int), Value.int IntKind.u8 (4 : Int), Value.int IntKind.i32 (1786 : Int),
Value.int IntKind.u8 (3 : Int), Value.int IntKind.i32 (1789 : Int), Value.int IntKind.u8 (8 : Int),
Value.int IntKind.i32 (3585 : Int), Value.int IntKind.u8 (3 : Int), Value.int IntKind.i32 (3633 : Int),
Value.int IntKind.u8 (2 : Int), Value.int IntKind.i32 (3634 : Int), Value.int IntKind.u8 (3 : Int),
Value.int IntKind.i32 (3636 : Int), Value.int IntKind.u8 (2 : Int), Value.int IntKind.i32 (3643 : Int),
Value.int IntKind.u8 (3 : Int), Value.int IntKind.i32 (3655 : Int), Value.int IntKind.u8 (2 : Int),
Value.int IntKind.i32 (3663 : Int), Value.int IntKind.u8 (8 : Int), Value.int IntKind.i32 (4256 : Int),
Value.int IntKind.u8 (3 : Int), Value.int IntKind.i32 (4608 : Int), Value.int IntKind.u8 (8 : Int),
Value.int IntKind.i32 (5760 : Int), Value.int IntKind.u8 (5 : Int), Value.int IntKind.i32 (5761 : Int),
Value.int IntKind.u8 (8 : Int), Value.int IntKind.i32 (6832 : Int), Value.int IntKind.u8 (2 : Int),
Value.int IntKind.i32 (6912 : Int), Value.int IntKind.u8 (8 : Int), Value.int IntKind.i32 (7616 : Int),
Value.int IntKind.u8 (2 : Int), Value.int IntKind.i32 (7680 : Int), Value.int IntKind.u8 (3 : Int),
Value.int IntKind.i32 (8192 : Int), Value.int IntKind.u8 (5 : Int), Value.int IntKind.i32 (8203 : Int),
Value.int IntKind.u8 (1 : Int), Value.int IntKind.i32 (8208 : Int), Value.int IntKind.u8 (6 : Int),
Value.int IntKind.i32 (8232 : Int), Value.int IntKind.u8 (5 : Int), Value.int IntKind.i32 (8234 : Int),
Value.int IntKind.u8 (1 : Int), Value.int IntKind.i32 (8239 : Int), Value.int IntKind.u8 (5 : Int),
Value.int IntKind.i32 (8240 : Int), Value.int IntKind.u8 (6 : Int), Value.int IntKind.i32 (8287 : Int),
Value.int IntKind.u8 (5 : Int), Value.int IntKind.i32 (8288 : Int), Value.int IntKind.u8 (1 : Int),
Value.int IntKind.i32 (8298 : Int), Value.int IntKind.u8 (8 : Int), Value.int IntKind.i32 (8352 : Int),
Value.int IntKind.u8 (7 : Int), Value.int IntKind.i32 (8400 : Int), Value.int IntKind.u8 (2 : Int),
Value.int IntKind.i32 (8448 : Int), Value.int IntKind.u8 (7 : Int), Value.int IntKind.i32 (9676 : Int),
Value.int IntKind.u8 (6 : Int), Value.int IntKind.i32 (9677 : Int), Value.int IntKind.u8 (7 : Int),
Value.int IntKind.i32 (11264 : Int), Value.int IntKind.u8 (3 : Int), Value.int IntKind.i32 (11744 : Int),
Value.int IntKind.u8 (8 : Int), Value.int IntKind.i32 (12288 : Int), Value.int IntKind.u8 (5 : Int),
Value.int IntKind.i32 (12289 : Int), Value.int IntKind.u8 (6 : Int), Value.int IntKind.i32 (12292 : Int),
Value.int IntKind.u8 (8 : Int), Value.int IntKind.i32 (12293 : Int), Value.int IntKind.u8 (3 : Int),
Value.int IntKind.i32 (12296 : Int), Value.int IntKind.u8 (6 : Int), Value.int IntKind.i32 (12320 : Int),
Value.int IntKind.u8 (8 : Int), Value.int IntKind.i32 (12330 : Int), Value.int IntKind.u8 (2 : Int),
Value.int IntKind.i32 (12334 : Int), Value.int IntKind.u8 (8 : Int), Value.int IntKind.i32 (12353 : Int),
Value.int IntKind.u8 (3 : Int), Value.int IntKind.i32 (12441 : Int), Value.int IntKind.u8 (2 : Int),
Value.int IntKind.i32 (12443 : Int), Value.int IntKind.u8 (3 : Int), Value.int IntKind.i32 (12544 : Int),
Value.int IntKind.u8 (8 : Int), Value.int IntKind.i32 (12549 : Int), Value.int IntKind.u8 (3 : Int),
Value.int IntKind.i32 (12687 : Int), Value.int IntKind.u8 (8 : Int), Value.int IntKind.i32 (13312 : Int),
Value.int IntKind.u8 (3 : Int), Value.int IntKind.i32 (19904 : Int), Value.int IntKind.u8 (8 : Int),
Value.int IntKind.i32 (19968 : Int), Value.int IntKind.u8 (3 : Int), Value.int IntKind.i32 (40960 : Int),
Value.int IntKind.u8 (8 : Int), Value.int IntKind.i32 (44032 : Int), Value.int IntKind.u8 (3 : Int),
Value.int IntKind.i32 (55204 : Int), Value.int IntKind.u8 (8 : Int), Value.int IntKind.i32 (63744 : Int),
Value.int IntKind.u8 (3 : Int), Value.int IntKind.i32 (64256 : Int), Value.int IntKind.u8 (8 : Int),
Value.int IntKind.i32 (64285 : Int), Value.int IntKind.u8 (3 : Int), Value.int IntKind.i32 (65020 : Int),
Value.int IntKind.u8 (8 : Int), Value.int IntKind.i32 (65024 : Int), Value.int IntKind.u8 (2 : Int),
Value.int IntKind.i32 (65040 : Int), Value.int IntKind.u8 (8 : Int), Value.int IntKind.i32 (65056 : Int),
Value.int IntKind.u8 (2 : Int), Value.int IntKind.i32 (65072 : Int), Value.int IntKind.u8 (8 : Int),
Value.int IntKind.i32 (65136 : Int), Value.int IntKind.u8 (3 : Int), Value.int IntKind.i32 (65277 : Int),
Value.int IntKind.u8 (8 : Int), Value.int IntKind.i32 (65279 : Int), Value.int IntKind.u8 (1 : Int),
Value.int IntKind.i32 (65280 : Int), Value.int IntKind.u8 (8 : Int), Value.int IntKind.i32 (65281 : Int),
Value.int IntKind.u8 (6 : Int), Value.int IntKind.i32 (65296 : Int), Value.int IntKind.u8 (4 : Int),
Value.int IntKind.i32 (65306 : Int), Value.int IntKind.u8 (6 : Int), Value.int IntKind.i32 (65313 : Int),
Value.int IntKind.u8 (3 : Int), Value.int IntKind.i32 (65339 : Int), Value.int IntKind.u8 (6 : Int),
Value.int IntKind.i32 (65345 : Int), Value.int IntKind.u8 (3 : Int), Value.int IntKind.i32 (65371 : Int),
Value.int IntKind.u8 (6 : Int), Value.int IntKind.i32 (65382 : Int), Value.int IntKind.u8 (3 : Int),
Value.int IntKind.i32 (65501 : Int), Value.int IntKind.u8 (8 : Int), Value.int IntKind.i32 (65532 : Int),
Value.int IntKind.u8 (7 : Int), Value.int IntKind.i32 (65534 : Int), Value.int IntKind.u8 (8 : Int),
Value.int IntKind.i32 (126976 : Int), Value.int IntKind.u8 (7 : Int), Value.int IntKind.i32 (129792 : Int),
Value.int IntKind.u8 (8 : Int), Value.int IntKind.i32 (131072 : Int), Value.int IntKind.u8 (3 : Int),
Value.int IntKind.i32 (262142 : Int), Value.int IntKind.u8 (8 : Int)]
(124 : Nat))
b w1 →
∃ (g1 : GFind),
#[Value.slice (some { block := b, off := (0 : Nat) }) (181 : Nat) (181 : Nat), Value.int IntKind.i32 g] =
#[Value.slice (some { block := g1.b, off := (0 : Nat) }) g1.T.length g1.T.length, Value.int IntKind.i32 g1.r] ∧
(CellsT w1 g1.b g1.T ∧
(0 : Nat) < g1.T.length ∧
g1.T.length ≤ (1000 : Nat) ∧ boundsOk g1.T = true ∧ (g1.T.getD (0 : Nat) ((0 : Int), (0 : Int))).fst = (0 : Int)) ∧
∀ (x : Int × Int) (w' : World),
FindOk g1.T (knownF g1.r) x.fst x.snd ∧ Ext w1 w' →
∃ (x1 : Int × Int),
Value.tuple #[Value.int IntKind.u8 x.fst, Value.int IntKind.i32 x.snd] =
Value.tuple #[Value.int IntKind.u8 x1.fst, Value.int IntKind.i32 x1.snd] ∧
FindOk kindT (knownF g) x1.fst x1.snd ∧ Ext w w') :
    ((sTab kindT)).Ok Tryd.prog 106 :=
  ok_of_vc (sTab kindT) (annOf spFind) spFind (fun _ _ => rfl) (fun _ _ => rfl) hsp Tryd.func106 rfl (n := 1) (fun _ => rfl) (by kernel_rfl) (vcast (by kernel_rfl) h)

set_option maxRecDepth 1000000 in
theorem ckind_vc (hsp : SpecsOk Tryd.prog spKind) (h : ∀ (g : Int) (w : World),
True →
∃ (g1 : Int),
#[Value.int IntKind.i32 g] = #[Value.int IntKind.i32 g1] ∧
True ∧
∀ (x : Int × Int) (w' : World),
FindOk kindT (knownF g1) x.fst x.snd ∧ Ext w w' →
InR IntKind.i8 x.fst ∧ ∃ (x1 : Int), Value.int IntKind.i8 x.fst = Value.int IntKind.i8 x1 ∧ x1 = kindR g ∧ Ext w w') :
    ((sRuneX .i8 kindR)).Ok Tryd.prog 75 :=
  ok_of_vc (sRuneX .i8 kindR) (annOf spKind) spKind (fun _ _ => rfl) (fun _ _ => rfl) hsp Tryd.func75 rfl (n := 1) (fun _ => rfl) (by kernel_rfl) (vcast (by kernel_rfl) h)

set_option maxRecDepth 1000000 in
theorem rbrk_vc (hsp : SpecsOk Tryd.prog spKnown) (h : ∀ (g : Int) (w : World),
True →
∃ (g1 : Int),
#[Value.int IntKind.i32 g] = #[Value.int IntKind.i32 g1] ∧
True ∧
∀ (x : Int) (w' : World),
x = knownF g1 ∧ w' = w →
bcase
(decide (x ≥ (10 : Int)) && decide (x ≤ (13 : Int)) ||
(x == (133 : Int) || decide (x ≥ (8232 : Int)) && decide (x ≤ (8233 : Int))))
(∃ (x1 : Int), Value.int IntKind.i8 (2 : Int) = Value.int IntKind.i8 x1 ∧ x1 = brkR g ∧ w' = w)
(bcase (x == (8203 : Int))
(∃ (x1 : Int), Value.int IntKind.i8 (9 : Int) = Value.int IntKind.i8 x1 ∧ x1 = brkR g ∧ w' = w)
(bcase
(x == (9 : Int) ||
(x == (32 : Int) ||
(x == (5760 : Int) ||
(decide (x ≥ (8192 : Int)) && decide (x ≤ (8198 : Int)) ||
(decide (x ≥ (8200 : Int)) && decide (x ≤ (8202 : Int)) || (x == (8287 : Int) || x == (12288 : Int)))))))
(∃ (x1 : Int), Value.int IntKind.i8 (1 : Int) = Value.int IntKind.i8 x1 ∧ x1 = brkR g ∧ w' = w)
(bcase (x == (160 : Int) || (x == (8199 : Int) || (x == (8239 : Int) || (x == (8288 : Int) || x == (65279 : Int)))))
(∃ (x1 : Int), Value.int IntKind.i8 (5 : Int) = Value.int IntKind.i8 x1 ∧ x1 = brkR g ∧ w' = w)
(bcase (x == (8205 : Int))
(∃ (x1 : Int), Value.int IntKind.i8 (12 : Int) = Value.int IntKind.i8 x1 ∧ x1 = brkR g ∧ w' = w)
(bcase
(x == (45 : Int) ||
(x == (173 : Int) ||
(x == (1418 : Int) ||
(x == (1470 : Int) || (x == (8208 : Int) || decide (x ≥ (8210 : Int)) && decide (x ≤ (8212 : Int)))))))
(∃ (x1 : Int), Value.int IntKind.i8 (6 : Int) = Value.int IntKind.i8 x1 ∧ x1 = brkR g ∧ w' = w)
(bcase
(decide (x ≤ (31 : Int)) ||
(decide (x ≥ (127 : Int)) && decide (x ≤ (159 : Int)) ||
(x == (173 : Int) ||
(x == (1564 : Int) ||
(decide (x ≥ (8203 : Int)) && decide (x ≤ (8207 : Int)) ||
(decide (x ≥ (8234 : Int)) && decide (x ≤ (8238 : Int)) ||
(decide (x ≥ (8288 : Int)) && decide (x ≤ (8297 : Int)) ||
(x == (65279 : Int) ||
(decide (x ≥ (768 : Int)) && decide (x ≤ (879 : Int)) ||
(decide (x ≥ (1155 : Int)) && decide (x ≤ (1161 : Int)) ||
(decide (x ≥ (1425 : Int)) && decide (x ≤ (1469 : Int)) ||
(x == (1471 : Int) ||
(decide (x ≥ (1473 : Int)) && decide (x ≤ (1474 : Int)) ||
(decide (x ≥ (1476 : Int)) && decide (x ≤ (1477 : Int)) ||
(x == (1479 : Int) ||
(decide (x ≥ (1552 : Int)) && decide (x ≤ (1562 : Int)) ||
(decide (x ≥ (1611 : Int)) && decide (x ≤ (1631 : Int)) ||
(x == (1648 : Int) ||
(decide (x ≥ (1750 : Int)) && decide (x ≤ (1756 : Int)) ||
(decide (x ≥ (1759 : Int)) && decide (x ≤ (1764 : Int)) ||
(decide (x ≥ (1767 : Int)) && decide (x ≤ (1768 : Int)) ||
(decide (x ≥ (1770 : Int)) && decide (x ≤ (1773 : Int)) ||
(x == (3633 : Int) ||
(decide (x ≥ (3636 : Int)) && decide (x ≤ (3642 : Int)) ||
(decide (x ≥ (3655 : Int)) && decide (x ≤ (3662 : Int)) ||
(decide (x ≥ (6832 : Int)) && decide (x ≤ (6911 : Int)) ||
(decide (x ≥ (7616 : Int)) && decide (x ≤ (7679 : Int)) ||
(decide (x ≥ (8400 : Int)) && decide (x ≤ (8447 : Int)) ||
(decide (x ≥ (12330 : Int)) && decide (x ≤ (12333 : Int)) ||
(decide (x ≥ (12441 : Int)) && decide (x ≤ (12442 : Int)) ||
(decide (x ≥ (65024 : Int)) && decide (x ≤ (65039 : Int)) ||
decide (x ≥ (65056 : Int)) && decide (x ≤ (65071 : Int)))))))))))))))))))))))))))))))))
(∃ (x1 : Int), Value.int IntKind.i8 (8 : Int) = Value.int IntKind.i8 x1 ∧ x1 = brkR g ∧ w' = w)
(bcase
(decide (x ≥ (48 : Int)) && decide (x ≤ (57 : Int)) ||
(decide (x ≥ (1632 : Int)) && decide (x ≤ (1641 : Int)) ||
(decide (x ≥ (1776 : Int)) && decide (x ≤ (1785 : Int)) || decide (x ≥ (65296 : Int)) && decide (x ≤ (65305 : Int)))))
(∃ (x1 : Int), Value.int IntKind.i8 (10 : Int) = Value.int IntKind.i8 x1 ∧ x1 = brkR g ∧ w' = w)
(bcase
(x == (44 : Int) ||
(decide (x ≥ (46 : Int)) && decide (x ≤ (47 : Int)) ||
(decide (x ≥ (58 : Int)) && decide (x ≤ (59 : Int)) ||
(x == (1548 : Int) || decide (x ≥ (1643 : Int)) && decide (x ≤ (1644 : Int))))))
(∃ (x1 : Int), Value.int IntKind.i8 (11 : Int) = Value.int IntKind.i8 x1 ∧ x1 = brkR g ∧ w' = w)
(bcase
(x == (40 : Int) ||
(x == (91 : Int) ||
(x == (123 : Int) ||
(x == (161 : Int) ||
(x == (171 : Int) ||
(x == (191 : Int) ||
(x == (8216 : Int) ||
(x == (8218 : Int) ||
(x == (8220 : Int) ||
(x == (8222 : Int) ||
(x == (8249 : Int) ||
(x == (12296 : Int) ||
(x == (12298 : Int) ||
(x == (12300 : Int) ||
(x == (12302 : Int) ||
(x == (12304 : Int) ||
(x == (12308 : Int) ||
(x == (12310 : Int) ||
(x == (12312 : Int) ||
(x == (12314 : Int) ||
(x == (65288 : Int) || (x == (65339 : Int) || (x == (65371 : Int) || x == (65375 : Int))))))))))))))))))))))))
(∃ (x1 : Int), Value.int IntKind.i8 (3 : Int) = Value.int IntKind.i8 x1 ∧ x1 = brkR g ∧ w' = w)
(bcase
(x == (33 : Int) ||
(x == (41 : Int) ||
(x == (63 : Int) ||
(x == (93 : Int) ||
(x == (125 : Int) ||
(x == (187 : Int) ||
(x == (1563 : Int) ||
(x == (1567 : Int) ||
(x == (8217 : Int) ||
(x == (8221 : Int) ||
(x == (8250 : Int) ||
(decide (x ≥ (12289 : Int)) && decide (x ≤ (12290 : Int)) ||
(x == (12297 : Int) ||
(x == (12299 : Int) ||
(x == (12301 : Int) ||
(x == (12303 : Int) ||
(x == (12305 : Int) ||
(x == (12309 : Int) ||
(x == (12311 : Int) ||
(x == (12313 : Int) ||
(x == (12315 : Int) ||
(x == (65281 : Int) ||
(x == (65289 : Int) ||
(x == (65292 : Int) ||
(x == (65294 : Int) ||
(decide (x ≥ (65306 : Int)) && decide (x ≤ (65307 : Int)) ||
(x == (65311 : Int) || (x == (65341 : Int) || (x == (65373 : Int) || x == (65376 : Int))))))))))))))))))))))))))))))
(∃ (x1 : Int), Value.int IntKind.i8 (4 : Int) = Value.int IntKind.i8 x1 ∧ x1 = brkR g ∧ w' = w)
(bcase
(decide (x ≥ (11904 : Int)) && decide (x ≤ (12351 : Int)) ||
(decide (x ≥ (12353 : Int)) && decide (x ≤ (19903 : Int)) ||
(decide (x ≥ (19968 : Int)) && decide (x ≤ (42191 : Int)) ||
(decide (x ≥ (44032 : Int)) && decide (x ≤ (55203 : Int)) ||
(decide (x ≥ (63744 : Int)) && decide (x ≤ (64255 : Int)) ||
(decide (x ≥ (65282 : Int)) && decide (x ≤ (65374 : Int)) ||
(decide (x ≥ (127744 : Int)) && decide (x ≤ (129791 : Int)) ||
decide (x ≥ (131072 : Int)) && decide (x ≤ (262141 : Int)))))))))
(∃ (x1 : Int), Value.int IntKind.i8 (7 : Int) = Value.int IntKind.i8 x1 ∧ x1 = brkR g ∧ w' = w)
(∃ (x1 : Int), Value.int IntKind.i8 (0 : Int) = Value.int IntKind.i8 x1 ∧ x1 = brkR g ∧ w' = w))))))))))))) :
    ((sRune .i8 brkR)).Ok Tryd.prog 87 :=
  ok_of_vc (sRune .i8 brkR) (annOf spKnown) spKnown (fun _ _ => rfl) (fun _ _ => rfl) hsp Tryd.func87 rfl (n := 1) (fun _ => rfl) (by kernel_rfl) (vcast (by kernel_rfl) h)

set_option maxRecDepth 1000000 in
theorem brks_vc (hsp : SpecsOk Tryd.prog spFind) (h : ∀ (g : Int) (w : World),
True →
∀ (b : Nat) (w1 : World),
New w
(Obj.cells
#[Value.int IntKind.i32 (0 : Int), Value.int IntKind.u8 (8 : Int), Value.int IntKind.i32 (9 : Int),
Value.int IntKind.u8 (1 : Int), Value.int IntKind.i32 (10 : Int), Value.int IntKind.u8 (2 : Int),
Value.int IntKind.i32 (14 : Int), Value.int IntKind.u8 (8 : Int), Value.int IntKind.i32 (32 : Int),
Value.int IntKind.u8 (1 : Int), Value.int IntKind.i32 (33 : Int), Value.int IntKind.u8 (4 : Int),
Value.int IntKind.i32 (34 : Int), Value.int IntKind.u8 (0 : Int), Value.int IntKind.i32 (40 : Int),
Value.int IntKind.u8 (3 : Int), Value.int IntKind.i32 (41 : Int), Value.int IntKind.u8 (4 : Int),
Value.int IntKind.i32 (42 : Int), Value.int IntKind.u8 (0 : Int), Value.int IntKind.i32 (44 : Int),
Value.int IntKind.u8 (11 : Int), Value.int IntKind.i32 (45 : Int), Value.int IntKind.u8 (6 : Int),
Value.int IntKind.i32 (46 : Int), Value.int IntKind.u8 (11 : Int), Value.int IntKind.i32 (48 : Int),
Value.int IntKind.u8 (10 : Int), Value.int IntKind.i32 (58 : Int), Value.int IntKind.u8 (11 : Int),
Value.int IntKind.i32 (60 : Int), Value.int IntKind.u8 (0 : Int), Value.int IntKind.i32 (63 : Int),
Value.int IntKind.u8 (4 : Int), Value.int IntKind.i32 (64 : Int), Value.int IntKind.u8 (0 : Int),
Value.int IntKind.i32 (91 : Int), Value.int IntKind.u8 (3 : Int), Value.int IntKind.i32 (92 : Int),
Value.int IntKind.u8 (0 : Int), Value.int IntKind.i32 (93 : Int), Value.int IntKind.u8 (4 : Int),
Value.int IntKind.i32 (94 : Int), Value.int IntKind.u8 (0 : Int), Value.int IntKind.i32 (123 : Int),
Value.int IntKind.u8 (3 : Int), Value.int IntKind.i32 (124 : Int), Value.int IntKind.u8 (0 : Int),
Value.int IntKind.i32 (125 : Int), Value.int IntKind.u8 (4 : Int), Value.int IntKind.i32 (126 : Int),
Value.int IntKind.u8 (0 : Int), Value.int IntKind.i32 (127 : Int), Value.int IntKind.u8 (8 : Int),
Value.int IntKind.i32 (133 : Int), Value.int IntKind.u8 (2 : Int), Value.int IntKind.i32 (134 : Int),
Value.int IntKind.u8 (8 : Int), Value.int IntKind.i32 (160 : Int), Value.int IntKind.u8 (5 : Int),
Value.int IntKind.i32 (161 : Int), Value.int IntKind.u8 (3 : Int), Value.int IntKind.i32 (162 : Int),
Value.int IntKind.u8 (0 : Int), Value.int IntKind.i32 (171 : Int), Value.int IntKind.u8 (3 : Int),
Value.int IntKind.i32 (172 : Int), Value.int IntKind.u8 (0 : Int), Value.int IntKind.i32 (173 : Int),
Value.int IntKind.u8 (6 : Int), Value.int IntKind.i32 (174 : Int), Value.int IntKind.u8 (0 : Int),
Value.int IntKind.i32 (187 : Int), Value.int IntKind.u8 (4 : Int), Value.int IntKind.i32 (188 : Int),
Value.int IntKind.u8 (0 : Int), Value.int IntKind.i32 (191 : Int), Value.int IntKind.u8 (3 : Int),
Value.int IntKind.i32 (192 : Int), Value.int IntKind.u8 (0 : Int), Value.int IntKind.i32 (768 : Int),
Value.int IntKind.u8 (8 : Int), Value.int IntKind.i32 (880 : Int), Value.int IntKind.u8 (0 : Int),
Value.int IntKind.i32 (1155 : Int), Value.int IntKind.u8 (8 : Int), Value.int IntKind.i32 (1162 : Int),
Value.int IntKind.u8 (0 : Int), Value.int IntKind.i32 (1418 : Int), Value.int IntKind.u8 (6 : Int),
Value.int IntKind.i32 (1419 : Int), Value.int IntKind.u8 (0 : Int), Value.int IntKind.i32 (1425 : Int),
Value.int IntKind.u8 (8 : Int), Value.int IntKind.i32 (1470 : Int), Value.int IntKind.u8 (6 : Int),
Value.int IntKind.i32 (1471 : Int), Value.int IntKind.u8 (8 : Int), Value.int IntKind.i32 (1472 : Int),
Value.int IntKind.u8 (0 : Int), Value.int IntKind.i32 (1473 : Int), Value.int IntKind.u8 (8 : Int),
Value.int IntKind.i32 (1475 : Int), Value.int IntKind.u8 (0 : Int), Value.int IntKind.i32 (1476 : Int),
Value.int IntKind.u8 (8 : Int), Value.int IntKind.i32 (1478 : Int), Value.int IntKind.u8 (0 : Int),
Value.int IntKind.i32 (1479 : Int), Value.int IntKind.u8 (8 : Int), Value.int IntKind.i32 (1480 : Int),
Value.int IntKind.u8 (0 : Int), Value.int IntKind.i32 (1548 : Int), Value.int IntKind.u8 (11 : Int),
Value.int IntKind.i32 (1549 : Int), Value.int IntKind.u8 (0 : Int), Value.int IntKind.i32 (1552 : Int),
Value.int IntKind.u8 (8 : Int), Value.int IntKind.i32 (1563 : Int), Value.int IntKind.u8 (4 : Int),
Value.int IntKind.i32 (1564 : Int), Value.int IntKind.u8 (8 : Int), Value.int IntKind.i32 (1565 : Int),
Value.int IntKind.u8 (0 : Int), Value.int IntKind.i32 (1567 : Int), Value.int IntKind.u8 (4 : Int),
Value.int IntKind.i32 (1568 : Int), Value.int IntKind.u8 (0 : Int), Value.int IntKind.i32 (1611 : Int),
Value.int IntKind.u8 (8 : Int), Value.int IntKind.i32 (1632 : Int), Value.int IntKind.u8 (10 : Int),
Value.int IntKind.i32 (1642 : Int), Value.int IntKind.u8 (0 : Int), Value.int IntKind.i32 (1643 : Int),
Value.int IntKind.u8 (11 : Int), Value.int IntKind.i32 (1645 : Int), Value.int IntKind.u8 (0 : Int),
Value.int IntKind.i32 (1648 : Int), Value.int IntKind.u8 (8 : Int), Value.int IntKind.i32 (1649 : Int),
Value.int IntKind.u8 (0 : Int), Value.int IntKind.i32 (1750 : Int), Value.int IntKind.u8 (8 : Int),
Value.int IntKind.i32 (1757 : Int), Value.int IntKind.u8 (0 : Int), Value.int IntKind.i32 (1759 : Int),
Value.int IntKind.u8 (8 : Int), Value.int IntKind.i32 (1765 : Int), Value.int IntKind.u8 (0 : Int),
Value.int IntKind.i32 (1767 : Int), Value.int IntKind.u8 (8 : Int), Value.int IntKind.i32 (1769 : Int),
Value.int IntKind.u8 (0 : Int), Value.int IntKind.i32 (1770 : Int), Value.int IntKind.u8 (8 : Int),
Value.int IntKind.i32 (1774 : Int), Value.int IntKind.u8 (0 : Int), Value.int IntKind.i32 (1776 : Int),
Value.int IntKind.u8 (10 : Int), Value.int IntKind.i32 (1786 : Int), Value.int IntKind.u8 (0 : Int),
Value.int IntKind.i32 (3633 : Int), Value.int IntKind.u8 (8 : Int), Value.int IntKind.i32 (3634 : Int),
Value.int IntKind.u8 (0 : Int), Value.int IntKind.i32 (3636 : Int), Value.int IntKind.u8 (8 : Int),
Value.int IntKind.i32 (3643 : Int), Value.int IntKind.u8 (0 : Int), Value.int IntKind.i32 (3655 : Int),
Value.int IntKind.u8 (8 : Int), Value.int IntKind.i32 (3663 : Int), Value.int IntKind.u8 (0 : Int),
Value.int IntKind.i32 (5760 : Int), Value.int IntKind.u8 (1 : Int), Value.int IntKind.i32 (5761 : Int),
Value.int IntKind.u8 (0 : Int), Value.int IntKind.i32 (6832 : Int), Value.int IntKind.u8 (8 : Int),
Value.int IntKind.i32 (6912 : Int), Value.int IntKind.u8 (0 : Int), Value.int IntKind.i32 (7616 : Int),
Value.int IntKind.u8 (8 : Int), Value.int IntKind.i32 (7680 : Int), Value.int IntKind.u8 (0 : Int),
Value.int IntKind.i32 (8192 : Int), Value.int IntKind.u8 (1 : Int), Value.int IntKind.i32 (8199 : Int),
Value.int IntKind.u8 (5 : Int), Value.int IntKind.i32 (8200 : Int), Value.int IntKind.u8 (1 : Int),
Value.int IntKind.i32 (8203 : Int), Value.int IntKind.u8 (9 : Int), Value.int IntKind.i32 (8204 : Int),
Value.int IntKind.u8 (8 : Int), Value.int IntKind.i32 (8205 : Int), Value.int IntKind.u8 (12 : Int),
Value.int IntKind.i32 (8206 : Int), Value.int IntKind.u8 (8 : Int), Value.int IntKind.i32 (8208 : Int),
Value.int IntKind.u8 (6 : Int), Value.int IntKind.i32 (8209 : Int), Value.int IntKind.u8 (0 : Int),
Value.int IntKind.i32 (8210 : Int), Value.int IntKind.u8 (6 : Int), Value.int IntKind.i32 (8213 : Int),
Value.int IntKind.u8 (0 : Int), Value.int IntKind.i32 (8216 : Int), Value.int IntKind.u8 (3 : Int),
Value.int IntKind.i32 (8217 : Int), Value.int IntKind.u8 (4 : Int), Value.int IntKind.i32 (8218 : Int),
Value.int IntKind.u8 (3 : Int), Value.int IntKind.i32 (8219 : Int), Value.int IntKind.u8 (0 : Int),
Value.int IntKind.i32 (8220 : Int), Value.int IntKind.u8 (3 : Int), Value.int IntKind.i32 (8221 : Int),
Value.int IntKind.u8 (4 : Int), Value.int IntKind.i32 (8222 : Int), Value.int IntKind.u8 (3 : Int),
Value.int IntKind.i32 (8223 : Int), Value.int IntKind.u8 (0 : Int), Value.int IntKind.i32 (8232 : Int),
Value.int IntKind.u8 (2 : Int), Value.int IntKind.i32 (8234 : Int), Value.int IntKind.u8 (8 : Int),
Value.int IntKind.i32 (8239 : Int), Value.int IntKind.u8 (5 : Int), Value.int IntKind.i32 (8240 : Int),
Value.int IntKind.u8 (0 : Int), Value.int IntKind.i32 (8249 : Int), Value.int IntKind.u8 (3 : Int),
Value.int IntKind.i32 (8250 : Int), Value.int IntKind.u8 (4 : Int), Value.int IntKind.i32 (8251 : Int),
Value.int IntKind.u8 (0 : Int), Value.int IntKind.i32 (8287 : Int), Value.int IntKind.u8 (1 : Int),
Value.int IntKind.i32 (8288 : Int), Value.int IntKind.u8 (5 : Int), Value.int IntKind.i32 (8289 : Int),
Value.int IntKind.u8 (8 : Int), Value.int IntKind.i32 (8298 : Int), Value.int IntKind.u8 (0 : Int),
Value.int IntKind.i32 (8400 : Int), Value.int IntKind.u8 (8 : Int), Value.int IntKind.i32 (8448 : Int),
Value.int IntKind.u8 (0 : Int), Value.int IntKind.i32 (11904 : Int), Value.int IntKind.u8 (7 : Int),
Value.int IntKind.i32 (12288 : Int), Value.int IntKind.u8 (1 : Int), Value.int IntKind.i32 (12289 : Int),
Value.int IntKind.u8 (4 : Int), Value.int IntKind.i32 (12291 : Int), Value.int IntKind.u8 (7 : Int),
Value.int IntKind.i32 (12296 : Int), Value.int IntKind.u8 (3 : Int), Value.int IntKind.i32 (12297 : Int),
Value.int IntKind.u8 (4 : Int), Value.int IntKind.i32 (12298 : Int), Value.int IntKind.u8 (3 : Int),
Value.int IntKind.i32 (12299 : Int), Value.int IntKind.u8 (4 : Int), Value.int IntKind.i32 (12300 : Int),
Value.int IntKind.u8 (3 : Int), Value.int IntKind.i32 (12301 : Int), Value.int IntKind.u8 (4 : Int),
Value.int IntKind.i32 (12302 : Int), Value.int IntKind.u8 (3 : Int), Value.int IntKind.i32 (12303 : Int),
Value.int IntKind.u8 (4 : Int), Value.int IntKind.i32 (12304 : Int), Value.int IntKind.u8 (3 : Int),
Value.int IntKind.i32 (12305 : Int), Value.int IntKind.u8 (4 : Int), Value.int IntKind.i32 (12306 : Int),
Value.int IntKind.u8 (7 : Int), Value.int IntKind.i32 (12308 : Int), Value.int IntKind.u8 (3 : Int),
Value.int IntKind.i32 (12309 : Int), Value.int IntKind.u8 (4 : Int), Value.int IntKind.i32 (12310 : Int),
Value.int IntKind.u8 (3 : Int), Value.int IntKind.i32 (12311 : Int), Value.int IntKind.u8 (4 : Int),
Value.int IntKind.i32 (12312 : Int), Value.int IntKind.u8 (3 : Int), Value.int IntKind.i32 (12313 : Int),
Value.int IntKind.u8 (4 : Int), Value.int IntKind.i32 (12314 : Int), Value.int IntKind.u8 (3 : Int),
Value.int IntKind.i32 (12315 : Int), Value.int IntKind.u8 (4 : Int), Value.int IntKind.i32 (12316 : Int),
Value.int IntKind.u8 (7 : Int), Value.int IntKind.i32 (12330 : Int), Value.int IntKind.u8 (8 : Int),
Value.int IntKind.i32 (12334 : Int), Value.int IntKind.u8 (7 : Int), Value.int IntKind.i32 (12352 : Int),
Value.int IntKind.u8 (0 : Int), Value.int IntKind.i32 (12353 : Int), Value.int IntKind.u8 (7 : Int),
Value.int IntKind.i32 (12441 : Int), Value.int IntKind.u8 (8 : Int), Value.int IntKind.i32 (12443 : Int),
Value.int IntKind.u8 (7 : Int), Value.int IntKind.i32 (19904 : Int), Value.int IntKind.u8 (0 : Int),
Value.int IntKind.i32 (19968 : Int), Value.int IntKind.u8 (7 : Int), Value.int IntKind.i32 (42192 : Int),
Value.int IntKind.u8 (0 : Int), Value.int IntKind.i32 (44032 : Int), Value.int IntKind.u8 (7 : Int),
Value.int IntKind.i32 (55204 : Int), Value.int IntKind.u8 (0 : Int), Value.int IntKind.i32 (63744 : Int),
Value.int IntKind.u8 (7 : Int), Value.int IntKind.i32 (64256 : Int), Value.int IntKind.u8 (0 : Int),
Value.int IntKind.i32 (65024 : Int), Value.int IntKind.u8 (8 : Int), Value.int IntKind.i32 (65040 : Int),
Value.int IntKind.u8 (0 : Int), Value.int IntKind.i32 (65056 : Int), Value.int IntKind.u8 (8 : Int),
Value.int IntKind.i32 (65072 : Int), Value.int IntKind.u8 (0 : Int), Value.int IntKind.i32 (65279 : Int),
Value.int IntKind.u8 (5 : Int), Value.int IntKind.i32 (65280 : Int), Value.int IntKind.u8 (0 : Int),
Value.int IntKind.i32 (65281 : Int), Value.int IntKind.u8 (4 : Int), Value.int IntKind.i32 (65282 : Int),
Value.int IntKind.u8 (7 : Int), Value.int IntKind.i32 (65288 : Int), Value.int IntKind.u8 (3 : Int),
Value.int IntKind.i32 (65289 : Int), Value.int IntKind.u8 (4 : Int), Value.int IntKind.i32 (65290 : Int),
Value.int IntKind.u8 (7 : Int), Value.int IntKind.i32 (65292 : Int), Value.int IntKind.u8 (4 : Int),
Value.int IntKind.i32 (65293 : Int), Value.int IntKind.u8 (7 : Int), Value.int IntKind.i32 (65294 : Int),
Value.int IntKind.u8 (4 : Int), Value.int IntKind.i32 (65295 : Int), Value.int IntKind.u8 (7 : Int),
Value.int IntKind.i32 (65296 : Int), Value.int IntKind.u8 (10 : Int), Value.int IntKind.i32 (65306 : Int),
Value.int IntKind.u8 (4 : Int), Value.int IntKind.i32 (65308 : Int), Value.int IntKind.u8 (7 : Int),
Value.int IntKind.i32 (65311 : Int), Value.int IntKind.u8 (4 : Int), Value.int IntKind.i32 (65312 : Int),
Value.int IntKind.u8 (7 : Int), Value.int IntKind.i32 (65339 : Int), Value.int IntKind.u8 (3 : Int),
Value.int IntKind.i32 (65340 : Int), Value.int IntKind.u8 (7 : Int), Value.int IntKind.i32 (65341 : Int),
Value.int IntKind.u8 (4 : Int), Value.int IntKind.i32 (65342 : Int), Value.int IntKind.u8 (7 : Int),
Value.int IntKind.i32 (65371 : Int), Value.int IntKind.u8 (3 : Int), Value.int IntKind.i32 (65372 : Int),
Value.int IntKind.u8 (7 : Int), Value.int IntKind.i32 (65373 : Int), Value.int IntKind.u8 (4 : Int),
Value.int IntKind.i32 (65374 : Int), Value.int IntKind.u8 (7 : Int), Value.int IntKind.i32 (65375 : Int),
Value.int IntKind.u8 (3 : Int), Value.int IntKind.i32 (65376 : Int), Value.int IntKind.u8 (4 : Int),
Value.int IntKind.i32 (65377 : Int), Value.int IntKind.u8 (0 : Int), Value.int IntKind.i32 (127744 : Int),
Value.int IntKind.u8 (7 : Int), Value.int IntKind.i32 (129792 : Int), Value.int IntKind.u8 (0 : Int),
Value.int IntKind.i32 (131072 : Int), Value.int IntKind.u8 (7 : Int), Value.int IntKind.i32 (262142 : Int),
Value.int IntKind.u8 (0 : Int)]
(121 : Nat))
b w1 →
∃ (g1 : GFind),
#[Value.slice (some { block := b, off := (0 : Nat) }) (197 : Nat) (197 : Nat), Value.int IntKind.i32 g] =
#[Value.slice (some { block := g1.b, off := (0 : Nat) }) g1.T.length g1.T.length, Value.int IntKind.i32 g1.r] ∧
(CellsT w1 g1.b g1.T ∧
(0 : Nat) < g1.T.length ∧
g1.T.length ≤ (1000 : Nat) ∧ boundsOk g1.T = true ∧ (g1.T.getD (0 : Nat) ((0 : Int), (0 : Int))).fst = (0 : Int)) ∧
∀ (x : Int × Int) (w' : World),
FindOk g1.T (knownF g1.r) x.fst x.snd ∧ Ext w1 w' →
∃ (x1 : Int × Int),
Value.tuple #[Value.int IntKind.u8 x.fst, Value.int IntKind.i32 x.snd] =
Value.tuple #[Value.int IntKind.u8 x1.fst, Value.int IntKind.i32 x1.snd] ∧
FindOk brkT (knownF g) x1.fst x1.snd ∧ Ext w w') :
    ((sTab brkT)).Ok Tryd.prog 100 :=
  ok_of_vc (sTab brkT) (annOf spFind) spFind (fun _ _ => rfl) (fun _ _ => rfl) hsp Tryd.func100 rfl (n := 1) (fun _ => rfl) (by kernel_rfl) (vcast (by kernel_rfl) h)

set_option maxRecDepth 1000000 in
theorem cbrk_vc (hsp : SpecsOk Tryd.prog spBreak) (h : ∀ (g : Int) (w : World),
True →
∃ (g1 : Int),
#[Value.int IntKind.i32 g] = #[Value.int IntKind.i32 g1] ∧
True ∧
∀ (x : Int × Int) (w' : World),
FindOk brkT (knownF g1) x.fst x.snd ∧ Ext w w' →
InR IntKind.i8 x.fst ∧ ∃ (x1 : Int), Value.int IntKind.i8 x.fst = Value.int IntKind.i8 x1 ∧ x1 = brkR g ∧ Ext w w') :
    ((sRuneX .i8 brkR)).Ok Tryd.prog 64 :=
  ok_of_vc (sRuneX .i8 brkR) (annOf spBreak) spBreak (fun _ _ => rfl) (fun _ _ => rfl) hsp Tryd.func64 rfl (n := 1) (fun _ => rfl) (by kernel_rfl) (vcast (by kernel_rfl) h)

set_option maxRecDepth 1000000 in
theorem rwid_vc (hsp : SpecsOk Tryd.prog spKnown) (h : ∀ (g : Int) (w : World),
True →
∃ (g1 : Int),
#[Value.int IntKind.i32 g] = #[Value.int IntKind.i32 g1] ∧
True ∧
∀ (x : Int) (w' : World),
x = knownF g1 ∧ w' = w →
bcase
(decide (x ≤ (31 : Int)) ||
(decide (x ≥ (127 : Int)) && decide (x ≤ (159 : Int)) ||
(x == (173 : Int) ||
(x == (1564 : Int) ||
(decide (x ≥ (8203 : Int)) && decide (x ≤ (8207 : Int)) ||
(decide (x ≥ (8234 : Int)) && decide (x ≤ (8238 : Int)) ||
(decide (x ≥ (8288 : Int)) && decide (x ≤ (8297 : Int)) ||
(x == (65279 : Int) ||
(decide (x ≥ (768 : Int)) && decide (x ≤ (879 : Int)) ||
(decide (x ≥ (1155 : Int)) && decide (x ≤ (1161 : Int)) ||
(decide (x ≥ (1425 : Int)) && decide (x ≤ (1469 : Int)) ||
(x == (1471 : Int) ||
(decide (x ≥ (1473 : Int)) && decide (x ≤ (1474 : Int)) ||
(decide (x ≥ (1476 : Int)) && decide (x ≤ (1477 : Int)) ||
(x == (1479 : Int) ||
(decide (x ≥ (1552 : Int)) && decide (x ≤ (1562 : Int)) ||
(decide (x ≥ (1611 : Int)) && decide (x ≤ (1631 : Int)) ||
(x == (1648 : Int) ||
(decide (x ≥ (1750 : Int)) && decide (x ≤ (1756 : Int)) ||
(decide (x ≥ (1759 : Int)) && decide (x ≤ (1764 : Int)) ||
(decide (x ≥ (1767 : Int)) && decide (x ≤ (1768 : Int)) ||
(decide (x ≥ (1770 : Int)) && decide (x ≤ (1773 : Int)) ||
(x == (3633 : Int) ||
(decide (x ≥ (3636 : Int)) && decide (x ≤ (3642 : Int)) ||
(decide (x ≥ (3655 : Int)) && decide (x ≤ (3662 : Int)) ||
(decide (x ≥ (6832 : Int)) && decide (x ≤ (6911 : Int)) ||
(decide (x ≥ (7616 : Int)) && decide (x ≤ (7679 : Int)) ||
(decide (x ≥ (8400 : Int)) && decide (x ≤ (8447 : Int)) ||
(decide (x ≥ (12330 : Int)) && decide (x ≤ (12333 : Int)) ||
(decide (x ≥ (12441 : Int)) && decide (x ≤ (12442 : Int)) ||
(decide (x ≥ (65024 : Int)) && decide (x ≤ (65039 : Int)) ||
(decide (x ≥ (65056 : Int)) && decide (x ≤ (65071 : Int)) ||
decide (x ≥ (4448 : Int)) && decide (x ≤ (4607 : Int))))))))))))))))))))))))))))))))))
(∃ (x1 : Int), Value.int IntKind.i64 (0 : Int) = Value.int IntKind.i64 x1 ∧ x1 = widR g ∧ w' = w)
(bcase
(decide (x ≥ (4352 : Int)) && decide (x ≤ (4447 : Int)) ||
(decide (x ≥ (8986 : Int)) && decide (x ≤ (8987 : Int)) ||
(decide (x ≥ (9001 : Int)) && decide (x ≤ (9002 : Int)) ||
(decide (x ≥ (9193 : Int)) && decide (x ≤ (9203 : Int)) ||
(decide (x ≥ (9748 : Int)) && decide (x ≤ (9749 : Int)) ||
(decide (x ≥ (9800 : Int)) && decide (x ≤ (9811 : Int)) ||
(decide (x ≥ (9917 : Int)) && decide (x ≤ (9918 : Int)) ||
(x == (9989 : Int) ||
(x == (10060 : Int) ||
(decide (x ≥ (10067 : Int)) && decide (x ≤ (10071 : Int)) ||
(decide (x ≥ (10133 : Int)) && decide (x ≤ (10135 : Int)) ||
(x == (11088 : Int) ||
(decide (x ≥ (11904 : Int)) && decide (x ≤ (12350 : Int)) ||
(decide (x ≥ (12353 : Int)) && decide (x ≤ (19903 : Int)) ||
(decide (x ≥ (19968 : Int)) && decide (x ≤ (42191 : Int)) ||
(decide (x ≥ (44032 : Int)) && decide (x ≤ (55203 : Int)) ||
(decide (x ≥ (63744 : Int)) && decide (x ≤ (64255 : Int)) ||
(decide (x ≥ (65072 : Int)) && decide (x ≤ (65135 : Int)) ||
(decide (x ≥ (65281 : Int)) && decide (x ≤ (65376 : Int)) ||
(decide (x ≥ (65504 : Int)) && decide (x ≤ (65510 : Int)) ||
(decide (x ≥ (127744 : Int)) && decide (x ≤ (128591 : Int)) ||
(decide (x ≥ (128640 : Int)) && decide (x ≤ (128767 : Int)) ||
(decide (x ≥ (129280 : Int)) && decide (x ≤ (129791 : Int)) ||
decide (x ≥ (131072 : Int)) && decide (x ≤ (262141 : Int)))))))))))))))))))))))))
(∃ (x1 : Int), Value.int IntKind.i64 (2 : Int) = Value.int IntKind.i64 x1 ∧ x1 = widR g ∧ w' = w)
(bcase
(x == (161 : Int) ||
(x == (164 : Int) ||
(decide (x ≥ (167 : Int)) && decide (x ≤ (168 : Int)) ||
(x == (174 : Int) ||
(decide (x ≥ (176 : Int)) && decide (x ≤ (180 : Int)) ||
(decide (x ≥ (182 : Int)) && decide (x ≤ (186 : Int)) ||
(decide (x ≥ (188 : Int)) && decide (x ≤ (191 : Int)) ||
(x == (215 : Int) ||
(x == (247 : Int) ||
(decide (x ≥ (913 : Int)) && decide (x ≤ (937 : Int)) ||
(decide (x ≥ (945 : Int)) && decide (x ≤ (969 : Int)) ||
(decide (x ≥ (1040 : Int)) && decide (x ≤ (1103 : Int)) ||
(decide (x ≥ (8208 : Int)) && decide (x ≤ (8214 : Int)) ||
(decide (x ≥ (8216 : Int)) && decide (x ≤ (8221 : Int)) ||
(decide (x ≥ (8224 : Int)) && decide (x ≤ (8231 : Int)) ||
(decide (x ≥ (8240 : Int)) && decide (x ≤ (8251 : Int)) ||
(decide (x ≥ (8592 : Int)) && decide (x ≤ (8601 : Int)) ||
(decide (x ≥ (8704 : Int)) && decide (x ≤ (8959 : Int)) ||
(decide (x ≥ (9312 : Int)) && decide (x ≤ (9450 : Int)) ||
(decide (x ≥ (9472 : Int)) && decide (x ≤ (9675 : Int)) ||
(decide (x ≥ (9677 : Int)) && decide (x ≤ (9681 : Int)) ||
(decide (x ≥ (9733 : Int)) && decide (x ≤ (9734 : Int)) ||
(decide (x ≥ (9824 : Int)) && decide (x ≤ (9831 : Int)) ||
decide (x ≥ (57344 : Int)) && decide (x ≤ (63743 : Int)))))))))))))))))))))))))
(∃ (x1 : Int), Value.int IntKind.i64 (3 : Int) = Value.int IntKind.i64 x1 ∧ x1 = widR g ∧ w' = w)
(∃ (x1 : Int), Value.int IntKind.i64 (1 : Int) = Value.int IntKind.i64 x1 ∧ x1 = widR g ∧ w' = w)))) :
    ((sRune .i64 widR)).Ok Tryd.prog 139 :=
  ok_of_vc (sRune .i64 widR) (annOf spKnown) spKnown (fun _ _ => rfl) (fun _ _ => rfl) hsp Tryd.func139 rfl (n := 1) (fun _ => rfl) (by kernel_rfl) (vcast (by kernel_rfl) h)

set_option maxRecDepth 1000000 in
theorem wids_vc (hsp : SpecsOk Tryd.prog spFind) (h : ∀ (g : Int) (w : World),
True →
∀ (b : Nat) (w1 : World),
New w
(Obj.cells
#[Value.int IntKind.i32 (0 : Int), Value.int IntKind.u8 (0 : Int), Value.int IntKind.i32 (32 : Int),
Value.int IntKind.u8 (1 : Int), Value.int IntKind.i32 (127 : Int), Value.int IntKind.u8 (0 : Int),
Value.int IntKind.i32 (160 : Int), Value.int IntKind.u8 (1 : Int), Value.int IntKind.i32 (161 : Int),
Value.int IntKind.u8 (3 : Int), Value.int IntKind.i32 (162 : Int), Value.int IntKind.u8 (1 : Int),
Value.int IntKind.i32 (164 : Int), Value.int IntKind.u8 (3 : Int), Value.int IntKind.i32 (165 : Int),
Value.int IntKind.u8 (1 : Int), Value.int IntKind.i32 (167 : Int), Value.int IntKind.u8 (3 : Int),
Value.int IntKind.i32 (169 : Int), Value.int IntKind.u8 (1 : Int), Value.int IntKind.i32 (173 : Int),
Value.int IntKind.u8 (0 : Int), Value.int IntKind.i32 (174 : Int), Value.int IntKind.u8 (3 : Int),
Value.int IntKind.i32 (175 : Int), Value.int IntKind.u8 (1 : Int), Value.int IntKind.i32 (176 : Int),
Value.int IntKind.u8 (3 : Int), Value.int IntKind.i32 (181 : Int), Value.int IntKind.u8 (1 : Int),
Value.int IntKind.i32 (182 : Int), Value.int IntKind.u8 (3 : Int), Value.int IntKind.i32 (187 : Int),
Value.int IntKind.u8 (1 : Int), Value.int IntKind.i32 (188 : Int), Value.int IntKind.u8 (3 : Int),
Value.int IntKind.i32 (192 : Int), Value.int IntKind.u8 (1 : Int), Value.int IntKind.i32 (215 : Int),
Value.int IntKind.u8 (3 : Int), Value.int IntKind.i32 (216 : Int), Value.int IntKind.u8 (1 : Int),
Value.int IntKind.i32 (247 : Int), Value.int IntKind.u8 (3 : Int), Value.int IntKind.i32 (248 : Int),
Value.int IntKind.u8 (1 : Int), Value.int IntKind.i32 (768 : Int), Value.int IntKind.u8 (0 : Int),
Value.int IntKind.i32 (880 : Int), Value.int IntKind.u8 (1 : Int), Value.int IntKind.i32 (913 : Int),
Value.int IntKind.u8 (3 : Int), Value.int IntKind.i32 (938 : Int), Value.int IntKind.u8 (1 : Int),
Value.int IntKind.i32 (945 : Int), Value.int IntKind.u8 (3 : Int), Value.int IntKind.i32 (970 : Int),
Value.int IntKind.u8 (1 : Int), Value.int IntKind.i32 (1040 : Int), Value.int IntKind.u8 (3 : Int),
Value.int IntKind.i32 (1104 : Int), Value.int IntKind.u8 (1 : Int), Value.int IntKind.i32 (1155 : Int),
Value.int IntKind.u8 (0 : Int), Value.int IntKind.i32 (1162 : Int), Value.int IntKind.u8 (1 : Int),
Value.int IntKind.i32 (1425 : Int), Value.int IntKind.u8 (0 : Int), Value.int IntKind.i32 (1470 : Int),
Value.int IntKind.u8 (1 : Int), Value.int IntKind.i32 (1471 : Int), Value.int IntKind.u8 (0 : Int),
Value.int IntKind.i32 (1472 : Int), Value.int IntKind.u8 (1 : Int), Value.int IntKind.i32 (1473 : Int),
Value.int IntKind.u8 (0 : Int), Value.int IntKind.i32 (1475 : Int), Value.int IntKind.u8 (1 : Int),
Value.int IntKind.i32 (1476 : Int), Value.int IntKind.u8 (0 : Int), Value.int IntKind.i32 (1478 : Int),
Value.int IntKind.u8 (1 : Int), Value.int IntKind.i32 (1479 : Int), Value.int IntKind.u8 (0 : Int),
Value.int IntKind.i32 (1480 : Int), Value.int IntKind.u8 (1 : Int), Value.int IntKind.i32 (1552 : Int),
Value.int IntKind.u8 (0 : Int), Value.int IntKind.i32 (1563 : Int), Value.int IntKind.u8 (1 : Int),
Value.int IntKind.i32 (1564 : Int), Value.int IntKind.u8 (0 : Int), Value.int IntKind.i32 (1565 : Int),
Value.int IntKind.u8 (1 : Int), Value.int IntKind.i32 (1611 : Int), Value.int IntKind.u8 (0 : Int),
Value.int IntKind.i32 (1632 : Int), Value.int IntKind.u8 (1 : Int), Value.int IntKind.i32 (1648 : Int),
Value.int IntKind.u8 (0 : Int), Value.int IntKind.i32 (1649 : Int), Value.int IntKind.u8 (1 : Int),
Value.int IntKind.i32 (1750 : Int), Value.int IntKind.u8 (0 : Int), Value.int IntKind.i32 (1757 : Int),
Value.int IntKind.u8 (1 : Int), Value.int IntKind.i32 (1759 : Int), Value.int IntKind.u8 (0 : Int),
Value.int IntKind.i32 (1765 : Int), Value.int IntKind.u8 (1 : Int), Value.int IntKind.i32 (1767 : Int),
Value.int IntKind.u8 (0 : Int), Value.int IntKind.i32 (1769 : Int), Value.int IntKind.u8 (1 : Int),
Value.int IntKind.i32 (1770 : Int), Value.int IntKind.u8 (0 : Int), Value.int IntKind.i32 (1774 : Int),
Value.int IntKind.u8 (1 : Int), Value.int IntKind.i32 (3633 : Int), Value.int IntKind.u8 (0 : Int),
Value.int IntKind.i32 (3634 : Int), Value.int IntKind.u8 (1 : Int), Value.int IntKind.i32 (3636 : Int),
Value.int IntKind.u8 (0 : Int), Value.int IntKind.i32 (3643 : Int), Value.int IntKind.u8 (1 : Int),
Value.int IntKind.i32 (3655 : Int), Value.int IntKind.u8 (0 : Int), Value.int IntKind.i32 (3663 : Int),
Value.int IntKind.u8 (1 : Int), Value.int IntKind.i32 (4352 : Int), Value.int IntKind.u8 (2 : Int),
Value.int IntKind.i32 (4448 : Int), Value.int IntKind.u8 (0 : Int), Value.int IntKind.i32 (4608 : Int),
Value.int IntKind.u8 (1 : Int), Value.int IntKind.i32 (6832 : Int), Value.int IntKind.u8 (0 : Int),
Value.int IntKind.i32 (6912 : Int), Value.int IntKind.u8 (1 : Int), Value.int IntKind.i32 (7616 : Int),
Value.int IntKind.u8 (0 : Int), Value.int IntKind.i32 (7680 : Int), Value.int IntKind.u8 (1 : Int),
Value.int IntKind.i32 (8203 : Int), Value.int IntKind.u8 (0 : Int), Value.int IntKind.i32 (8208 : Int),
Value.int IntKind.u8 (3 : Int), Value.int IntKind.i32 (8215 : Int), Value.int IntKind.u8 (1 : Int),
Value.int IntKind.i32 (8216 : Int), Value.int IntKind.u8 (3 : Int), Value.int IntKind.i32 (8222 : Int),
Value.int IntKind.u8 (1 : Int), Value.int IntKind.i32 (8224 : Int), Value.int IntKind.u8 (3 : Int),
Value.int IntKind.i32 (8232 : Int), Value.int IntKind.u8 (1 : Int), Value.int IntKind.i32 (8234 : Int),
Value.int IntKind.u8 (0 : Int), Value.int IntKind.i32 (8239 : Int), Value.int IntKind.u8 (1 : Int),
Value.int IntKind.i32 (8240 : Int), Value.int IntKind.u8 (3 : Int), Value.int IntKind.i32 (8252 : Int),
Value.int IntKind.u8 (1 : Int), Value.int IntKind.i32 (8288 : Int), Value.int IntKind.u8 (0 : Int),
Value.int IntKind.i32 (8298 : Int), Value.int IntKind.u8 (1 : Int), Value.int IntKind.i32 (8400 : Int),
Value.int IntKind.u8 (0 : Int), Value.int IntKind.i32 (8448 : Int), Value.int IntKind.u8 (1 : Int),
Value.int IntKind.i32 (8592 : Int), Value.int IntKind.u8 (3 : Int), Value.int IntKind.i32 (8602 : Int),
Value.int IntKind.u8 (1 : Int), Value.int IntKind.i32 (8704 : Int), Value.int IntKind.u8 (3 : Int),
Value.int IntKind.i32 (8960 : Int), Value.int IntKind.u8 (1 : Int), Value.int IntKind.i32 (8986 : Int),
Value.int IntKind.u8 (2 : Int), Value.int IntKind.i32 (8988 : Int), Value.int IntKind.u8 (1 : Int),
Value.int IntKind.i32 (9001 : Int), Value.int IntKind.u8 (2 : Int), Value.int IntKind.i32 (9003 : Int),
Value.int IntKind.u8 (1 : Int), Value.int IntKind.i32 (9193 : Int), Value.int IntKind.u8 (2 : Int),
Value.int IntKind.i32 (9204 : Int), Value.int IntKind.u8 (1 : Int), Value.int IntKind.i32 (9312 : Int),
Value.int IntKind.u8 (3 : Int), Value.int IntKind.i32 (9451 : Int), Value.int IntKind.u8 (1 : Int),
Value.int IntKind.i32 (9472 : Int), Value.int IntKind.u8 (3 : Int), Value.int IntKind.i32 (9676 : Int),
Value.int IntKind.u8 (1 : Int), Value.int IntKind.i32 (9677 : Int), Value.int IntKind.u8 (3 : Int),
Value.int IntKind.i32 (9682 : Int), Value.int IntKind.u8 (1 : Int), Value.int IntKind.i32 (9733 : Int),
Value.int IntKind.u8 (3 : Int), Value.int IntKind.i32 (9735 : Int), Value.int IntKind.u8 (1 : Int),
Value.int IntKind.i32 (9748 : Int), Value.int IntKind.u8 (2 : Int), Value.int IntKind.i32 (9750 : Int),
Value.int IntKind.u8 (1 : Int), Value.int IntKind.i32 (9800 : Int), Value.int IntKind.u8 (2 : Int),
Value.int IntKind.i32 (9812 : Int), Value.int IntKind.u8 (1 : Int), Value.int IntKind.i32 (9824 : Int),
Value.int IntKind.u8 (3 : Int), Value.int IntKind.i32 (9832 : Int), Value.int IntKind.u8 (1 : Int),
Value.int IntKind.i32 (9917 : Int), Value.int IntKind.u8 (2 : Int), Value.int IntKind.i32 (9919 : Int),
Value.int IntKind.u8 (1 : Int), Value.int IntKind.i32 (9989 : Int), Value.int IntKind.u8 (2 : Int),
Value.int IntKind.i32 (9990 : Int), Value.int IntKind.u8 (1 : Int), Value.int IntKind.i32 (10060 : Int),
Value.int IntKind.u8 (2 : Int), Value.int IntKind.i32 (10061 : Int), Value.int IntKind.u8 (1 : Int),
Value.int IntKind.i32 (10067 : Int), Value.int IntKind.u8 (2 : Int), Value.int IntKind.i32 (10072 : Int),
Value.int IntKind.u8 (1 : Int), Value.int IntKind.i32 (10133 : Int), Value.int IntKind.u8 (2 : Int),
Value.int IntKind.i32 (10136 : Int), Value.int IntKind.u8 (1 : Int), Value.int IntKind.i32 (11088 : Int),
Value.int IntKind.u8 (2 : Int), Value.int IntKind.i32 (11089 : Int), Value.int IntKind.u8 (1 : Int),
Value.int IntKind.i32 (11904 : Int), Value.int IntKind.u8 (2 : Int), Value.int IntKind.i32 (12330 : Int),
Value.int IntKind.u8 (0 : Int), Value.int IntKind.i32 (12334 : Int), Value.int IntKind.u8 (2 : Int),
Value.int IntKind.i32 (12351 : Int), Value.int IntKind.u8 (1 : Int), Value.int IntKind.i32 (12353 : Int),
Value.int IntKind.u8 (2 : Int), Value.int IntKind.i32 (12441 : Int), Value.int IntKind.u8 (0 : Int),
Value.int IntKind.i32 (12443 : Int), Value.int IntKind.u8 (2 : Int), Value.int IntKind.i32 (19904 : Int),
Value.int IntKind.u8 (1 : Int), Value.int IntKind.i32 (19968 : Int), Value.int IntKind.u8 (2 : Int),
Value.int IntKind.i32 (42192 : Int), Value.int IntKind.u8 (1 : Int), Value.int IntKind.i32 (44032 : Int),
Value.int IntKind.u8 (2 : Int), Value.int IntKind.i32 (55204 : Int), Value.int IntKind.u8 (1 : Int),
Value.int IntKind.i32 (57344 : Int), Value.int IntKind.u8 (3 : Int), Value.int IntKind.i32 (63744 : Int),
Value.int IntKind.u8 (2 : Int), Value.int IntKind.i32 (64256 : Int), Value.int IntKind.u8 (1 : Int),
Value.int IntKind.i32 (65024 : Int), Value.int IntKind.u8 (0 : Int), Value.int IntKind.i32 (65040 : Int),
Value.int IntKind.u8 (1 : Int), Value.int IntKind.i32 (65056 : Int), Value.int IntKind.u8 (0 : Int),
Value.int IntKind.i32 (65072 : Int), Value.int IntKind.u8 (2 : Int), Value.int IntKind.i32 (65136 : Int),
Value.int IntKind.u8 (1 : Int), Value.int IntKind.i32 (65279 : Int), Value.int IntKind.u8 (0 : Int),
Value.int IntKind.i32 (65280 : Int), Value.int IntKind.u8 (1 : Int), Value.int IntKind.i32 (65281 : Int),
Value.int IntKind.u8 (2 : Int), Value.int IntKind.i32 (65377 : Int), Value.int IntKind.u8 (1 : Int),
Value.int IntKind.i32 (65504 : Int), Value.int IntKind.u8 (2 : Int), Value.int IntKind.i32 (65511 : Int),
Value.int IntKind.u8 (1 : Int), Value.int IntKind.i32 (127744 : Int), Value.int IntKind.u8 (2 : Int),
Value.int IntKind.i32 (128592 : Int), Value.int IntKind.u8 (1 : Int), Value.int IntKind.i32 (128640 : Int),
Value.int IntKind.u8 (2 : Int), Value.int IntKind.i32 (128768 : Int), Value.int IntKind.u8 (1 : Int),
Value.int IntKind.i32 (129280 : Int), Value.int IntKind.u8 (2 : Int), Value.int IntKind.i32 (129792 : Int),
Value.int IntKind.u8 (1 : Int), Value.int IntKind.i32 (131072 : Int), Value.int IntKind.u8 (2 : Int),
Value.int IntKind.i32 (262142 : Int), Value.int IntKind.u8 (1 : Int)]
(147 : Nat))
b w1 →
∃ (g1 : GFind),
#[Value.slice (some { block := b, off := (0 : Nat) }) (157 : Nat) (157 : Nat), Value.int IntKind.i32 g] =
#[Value.slice (some { block := g1.b, off := (0 : Nat) }) g1.T.length g1.T.length, Value.int IntKind.i32 g1.r] ∧
(CellsT w1 g1.b g1.T ∧
(0 : Nat) < g1.T.length ∧
g1.T.length ≤ (1000 : Nat) ∧ boundsOk g1.T = true ∧ (g1.T.getD (0 : Nat) ((0 : Int), (0 : Int))).fst = (0 : Int)) ∧
∀ (x : Int × Int) (w' : World),
FindOk g1.T (knownF g1.r) x.fst x.snd ∧ Ext w1 w' →
∃ (x1 : Int × Int),
Value.tuple #[Value.int IntKind.u8 x.fst, Value.int IntKind.i32 x.snd] =
Value.tuple #[Value.int IntKind.u8 x1.fst, Value.int IntKind.i32 x1.snd] ∧
FindOk widT (knownF g) x1.fst x1.snd ∧ Ext w w') :
    ((sTab widT)).Ok Tryd.prog 137 :=
  ok_of_vc (sTab widT) (annOf spFind) spFind (fun _ _ => rfl) (fun _ _ => rfl) hsp Tryd.func137 rfl (n := 1) (fun _ => rfl) (by kernel_rfl) (vcast (by kernel_rfl) h)

set_option maxRecDepth 1000000 in
theorem rwide_vc (hsp : SpecsOk Tryd.prog spCol) (h : ∀ (g : Int × Bool) (w : World),
True →
∃ (g1 : Int),
#[Value.int IntKind.i32 g.fst] = #[Value.int IntKind.i32 g1] ∧
True ∧
∀ (x : Int) (w' : World),
x = widR g1 ∧ w' = w →
bcase (x == (3 : Int))
(bcase g.snd
(∃ (x1 : Int), Value.int IntKind.i64 (2 : Int) = Value.int IntKind.i64 x1 ∧ x1 = wideR g.fst g.snd ∧ w' = w)
(∃ (x1 : Int), Value.int IntKind.i64 (1 : Int) = Value.int IntKind.i64 x1 ∧ x1 = wideR g.fst g.snd ∧ w' = w))
(∃ (x1 : Int), Value.int IntKind.i64 x = Value.int IntKind.i64 x1 ∧ x1 = wideR g.fst g.snd ∧ w' = w)) :
    ((sWide (fun w w' => w' = w))).Ok Tryd.prog 122 :=
  ok_of_vc (sWide (fun w w' => w' = w)) (annOf spCol) spCol (fun _ _ => rfl) (fun _ _ => rfl) hsp Tryd.func122 rfl (n := 2) (fun _ => rfl) (by kernel_rfl) (vcast (by kernel_rfl) h)

set_option maxRecDepth 1000000 in
theorem cwide_vc (hsp : SpecsOk Tryd.prog spWid) (h : ∀ (g : Int × Bool) (w : World),
True →
∃ (g1 : Int),
#[Value.int IntKind.i32 g.fst] = #[Value.int IntKind.i32 g1] ∧
True ∧
∀ (x : Int × Int) (w' : World),
FindOk widT (knownF g1) x.fst x.snd ∧ Ext w w' →
bcase (decide (x.fst < (3 : Int)))
(InR IntKind.i64 x.fst ∧
∃ (x1 : Int), Value.int IntKind.i64 x.fst = Value.int IntKind.i64 x1 ∧ x1 = wideR g.fst g.snd ∧ Ext w w')
(bcase g.snd
(∃ (x1 : Int), Value.int IntKind.i64 (2 : Int) = Value.int IntKind.i64 x1 ∧ x1 = wideR g.fst g.snd ∧ Ext w w')
(∃ (x1 : Int), Value.int IntKind.i64 (1 : Int) = Value.int IntKind.i64 x1 ∧ x1 = wideR g.fst g.snd ∧ Ext w w'))) :
    ((sWide (fun w w' => Ext w w'))).Ok Tryd.prog 114 :=
  ok_of_vc (sWide (fun w w' => Ext w w')) (annOf spWid) spWid (fun _ _ => rfl) (fun _ _ => rfl) hsp Tryd.func114 rfl (n := 2) (fun _ => rfl) (by kernel_rfl) (vcast (by kernel_rfl) h)

end Go.Proofs.YthpjkgoahneldaaDoor
end

section
/-
  Facts that many proofs share.
-/
namespace Go.Proofs.YthpjkgoahneldaaDoor
open Go Go.RowKit Vc

theorem take_succ0 {xs : List Int} {x : Nat} (h : x < xs.length) : xs.take (x + 1) = xs.take x ++ [xs.getD x 0] := by
  rw [List.take_add_one, List.getD_eq_getElem?_getD, List.getElem?_eq_getElem h]; rfl
theorem getD_take_map {k : IntKind} {xs : List Int} {i : Nat} (h : i < xs.length) : ((xs.take (i + 1)).map (Value.int k)) = ((xs.take i).map (Value.int k)) ++ [.int k (xs.getD i 0)] := by
  rw [take_succ0 h]; simp
theorem take_eq_step {a b : List Int} {x : Nat} (ha : x < a.length) (hb : x < b.length) (h : a.take x = b.take x) (hv : a.getD x 0 = b.getD x 0) : a.take (x + 1) = b.take (x + 1) := by
  rw [take_succ0 ha, take_succ0 hb, h, hv]
theorem at_box {w w1 : World} {k : IntKind} {e : TypeId} {b : Nat} {xs : List Int} {cs : Array Value} (h : New w (.cells cs e) b w1) (hcs : cs = (xs.map (Value.int k)).toArray) (hl : xs.length ≤ 35184372087808) : GSl.at k ⟨some ⟨b, 0, none⟩, xs.length, xs⟩ w1 := by
  subst hcs; exact ⟨CellsAt.new h, hl⟩
theorem GSl.at_ext {k : IntKind} {g : GSl} {w w1 : World} (h : g.at k w) (hx : Ext w w1) : g.at k w1 := ⟨h.1.ext hx, h.2⟩
theorem at_made {w w1 : World} {k : IntKind} {e : TypeId} {a : Option Addr} {n c : Nat} {xs : List Int} (h : Made w w1 e 1 a n (xs.map (Value.int k)) c) (hl : xs.length ≤ 35184372087808) : GSl.at k ⟨a, c, xs⟩ w1 :=
  ⟨h.row.cells, hl⟩
theorem Ext.fr_new {w0 w w' : World} {S : Nat → Prop} (h : Ext w0 w) (hf : Fr S w w') (hS : ∀ q, S q → w0.heap.size ≤ q) : Ext w0 w' :=
  Below.trans h (hf.below h.size (fun q hq hs => by have := hS q hs; omega))
theorem beq_nat (a b : Nat) : ((a : Int) == (b : Int)) = decide (a = b) := decide_eq_decide.2 (by omega)
theorem bne_nat (a b : Nat) : ((a : Int) != (b : Int)) = decide (a ≠ b) := by
  rw [bne, beq_nat, decide_not]

theorem flat_at {α : Type} {f : α → List Value} {s : Nat} (hf : ∀ x, (f x).length = s) : ∀ {l : List α} {k j : Nat} {x : α}, l[k]? = some x → j < s → (l.flatMap f)[k * s + j]? = (f x)[j]?
  | [], k, j, x, h, _ => by simp at h
  | y :: l, 0, j, x, h, hj => by
    simp only [List.getElem?_cons_zero, Option.some.injEq] at h
    subst h
    rw [List.flatMap_cons, Nat.zero_mul, Nat.zero_add, List.getElem?_append_left (by rw [hf]; exact hj)]
  | y :: l, k + 1, j, x, h, hj => by
    simp only [List.getElem?_cons_succ] at h
    rw [List.flatMap_cons, List.getElem?_append_right (by rw [hf, Nat.add_mul]; omega), hf, show (k + 1) * s + j - s = k * s + j from by rw [Nat.add_mul]; omega]
    exact flat_at hf h hj
theorem flat_len' {α : Type} {f : α → List Value} {s : Nat} (hf : ∀ x, (f x).length = s) (l : List α) : (l.flatMap f).length = l.length * s := by
  induction l with
  | nil => simp
  | cons x l ih => rw [List.flatMap_cons, List.length_append, ih, hf, List.length_cons, Nat.add_mul]; omega

end Go.Proofs.YthpjkgoahneldaaDoor

namespace Go.Proofs.YthpjkgoahneldaaDoor.Vc
open Go Go.RowKit

/-- A cell of an element of several cells. -/
theorem CellsAt.fld {w : World} {ad : Option Addr} {vs : List Value} {k s j : Nat} {v : Value} {K : Nat → Nat → Prop} (h : CellsAt w ad vs) (hv : vs[k * s + j]? = some v)
    (hk : ∀ b o, w.cell? ⟨b, o + k * s + j, none⟩ = some v → K b o) : ptrE ad K := by
  rcases h with h | ⟨b, o, h1, h2⟩
  · subst h; simp at hv
  · subst h1
    refine hk b o ?_
    rw [Nat.add_assoc]; exact h2 _ _ hv
/-- All cells of an element. -/
theorem CellsAt.elem {w : World} {ad : Option Addr} {vs : List Value} {k s : Nat} {K : Nat → Nat → Prop} (h : CellsAt w ad vs) (hs : 0 < s) (hl : k * s + s ≤ vs.length)
    (hk : ∀ b o, (∀ j v, vs[k * s + j]? = some v → w.cell? ⟨b, o + k * s + j, none⟩ = some v) → K b o) : ptrE ad K := by
  rcases h with h | ⟨b, o, h1, h2⟩
  · subst h; simp at hl; omega
  · subst h1
    exact hk b o fun j v hv => by rw [Nat.add_assoc]; exact h2 _ _ hv
/-- An iterator over a string goes on: a block of the call's own. -/
theorem Nexted.below {w0 w w1 : World} {r i B : Nat} {s : ByteArray} (h : Nexted w r s i w1) (hb : Below B w0 w) (hr : B ≤ r) : Below B w0 w1 := by
  subst h
  exact ⟨hb.os, hb.tape, hb.output, by simpa using hb.size, fun b hlt => (World.putObj_heap_other (by omega)).trans (hb.block b hlt)⟩
theorem Nexted.heap {w w1 : World} {r i : Nat} {s : ByteArray} {o : Obj} (h : Nexted w r s i w1) (hr : w.heap[r]? = some o) : w1.heap[r]? = some (.stringIter s (i + dcN s i)) := by
  subst h
  have := (Array.getElem?_eq_some_iff.1 hr).1
  simp [World.putObj, this]
theorem Nexted.other {w w1 : World} {r i b : Nat} {s : ByteArray} (h : Nexted w r s i w1) (hb : b ≠ r) : w1.heap[b]? = w.heap[b]? := by
  subst h; exact World.putObj_heap_other hb
theorem Nexted.size {w w1 : World} {r i : Nat} {s : ByteArray} (h : Nexted w r s i w1) : w1.heap.size = w.heap.size := by subst h; simp
theorem Row.nexted {w w1 : World} {e : TypeId} {r i s' n c : Nat} {s : ByteArray} {ad : Option Addr} {vs : List Value} (h : Row w e s' ad n vs c) (hn : Nexted w r s i w1) (hr : ∃ s0 i0, w.heap[r]? = some (.stringIter s0 i0)) : Row w1 e s' ad n vs c := by
  refine ⟨h.1, ?_⟩
  rcases h.2 with h1 | ⟨g, cur, h1, h2, h3⟩
  · exact .inl h1
  · refine .inr ⟨g, cur, h1, ?_, h3⟩
    have : g ≠ r := by rintro rfl; obtain ⟨s0, i0, hr⟩ := hr; rw [hr] at h2; cases h2
    rw [hn.other this]; exact h2
theorem Made.nexted {w0 w w1 : World} {e : TypeId} {r i s' n c : Nat} {s : ByteArray} {ad : Option Addr} {vs : List Value} (h : Made w0 w e s' ad n vs c) (hn : Nexted w r s i w1) (hr : ∃ s0 i0, w.heap[r]? = some (.stringIter s0 i0)) (hB : w0.heap.size ≤ r) : Made w0 w1 e s' ad n vs c :=
  ⟨h.row.nexted hn hr, h.new, hn.below h.ext hB⟩

end Go.Proofs.YthpjkgoahneldaaDoor.Vc
end
