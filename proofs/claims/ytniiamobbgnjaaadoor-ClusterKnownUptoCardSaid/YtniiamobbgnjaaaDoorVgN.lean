/-
  Verification conditions, printed by a program out of the specifications beside this text: each theorem says that the condition suffices. (Lean's kernel compares the printed condition with what 'wpE' computes.)
-/
import Derived.Test.YtniiamobbgnjaaaDoorSpN
import Derived.Test.YtniiamobbgnjaaaDoorProg
import Derived.KernelRfl
set_option linter.unusedVariables false
namespace Go.Proofs.YtniiamobbgnjaaaDoor
open Go Go.RowKit Vc Ut Tb Cl

set_option maxRecDepth 1000000 in
theorem cnext_vc (hsp : SpecsOk Tryd.prog spCNext) (h : ∀ (g : ByteArray) (w : World),
U8 w ∧ g.size ≤ (67108864 : Nat) →
(∃ (g1 : ByteArray),
#[Value.string g] = #[Value.string g1] ∧
(U8 w ∧ g1.size ≤ (67108864 : Nat)) ∧
∀ (x : Int × Nat) (w' : World),
x.fst = nxR g1 ∧ x.snd = nxN g1 ∧ Ext w w' →
bcase (g.toList == (ByteArray.mk #[]).toList)
(∃ (x1 : Nat), Value.int IntKind.i64 (0 : Int) = Value.int IntKind.i64 (↑x1 : Int) ∧ x1 = nextL g ∧ Ext w w')
(bcase (x.fst == (65533 : Int))
(bcase ((↑x.snd : Int) == (1 : Int))
(∃ (y : Unit),
Value.int IntKind.i32 x.fst = Value.int IntKind.i32 (sg g (0 : Nat)) ∧
Value.int IntKind.i64 (↑x.snd : Int) = Value.int IntKind.i64 (↑(pos g (1 : Nat)) : Int) ∧
(0 : Nat) < g.size ∧ (isBad g (0 : Nat) = true ∨ aloneB (sg g (0 : Nat)) = true) ∧ Ext w w')
(∃ (g2 : Int),
#[Value.int IntKind.i32 x.fst] = #[Value.int IntKind.i32 g2] ∧
True ∧
∀ (x1 : Bool) (w'1 : World),
x1 = aloneB g2 ∧ Ext w' w'1 →
bcase x1
(∃ (y : Unit),
Value.int IntKind.i32 x.fst = Value.int IntKind.i32 (sg g (0 : Nat)) ∧
Value.int IntKind.i64 (↑x.snd : Int) = Value.int IntKind.i64 (↑(pos g (1 : Nat)) : Int) ∧
(0 : Nat) < g.size ∧ (isBad g (0 : Nat) = true ∨ aloneB (sg g (0 : Nat)) = true) ∧ Ext w w'1)
(∃ (k : Nat),
(↑x.snd : Int) = (↑k : Int) ∧
k ≤ g.size ∧
g.size ≤ g.size ∧
∃ (g3 : ByteArray),
#[Value.string (g.extract k g.size)] = #[Value.string g3] ∧
(U8 w'1 ∧ g3.size ≤ (67108864 : Nat)) ∧
∀ (x2 : Int × Nat) (w'2 : World),
x2.fst = nxR g3 ∧ x2.snd = nxN g3 ∧ Ext w'1 w'2 →
bcase ((↑x.snd : Int) == (↑g.size : Int) || x2.fst == (65533 : Int) && (↑x2.snd : Int) == (1 : Int))
(∃ (x3 : Nat), Value.int IntKind.i64 (↑x.snd : Int) = Value.int IntKind.i64 (↑x3 : Int) ∧ x3 = nextL g ∧ Ext w w'2)
(∃ (g4 : Int),
#[Value.int IntKind.i32 x2.fst] = #[Value.int IntKind.i32 g4] ∧
True ∧
∀ (x3 : Int) (w'3 : World),
x3 = kindR g4 ∧ Ext w'2 w'3 →
bcase (x3 == (2 : Int))
(bcase (x3 == (2 : Int)) (∃ (c : Nat), (1 : Int) = (↑c : Int) ∧ goB g (0 : Nat) c = true ∧ Ext w'2 w'3)
(∃ (g5 : Int),
#[Value.int IntKind.i32 x.fst] = #[Value.int IntKind.i32 g5] ∧
True ∧
∀ (x4 : Bool) (w'4 : World),
x4 = regB g5 ∧ Ext w'3 w'4 →
bcase x4
(∃ (g6 : Int),
#[Value.int IntKind.i32 x2.fst] = #[Value.int IntKind.i32 g6] ∧
True ∧
∀ (x5 : Bool) (w'5 : World),
x5 = regB g6 ∧ Ext w'4 w'5 →
bcase x5 (∃ (c : Nat), (1 : Int) = (↑c : Int) ∧ goB g (0 : Nat) c = true ∧ Ext w'2 w'5)
(bcase (x.fst == (8205 : Int))
(∃ (g7 : Int),
#[Value.int IntKind.i32 x.fst] = #[Value.int IntKind.i32 g7] ∧
True ∧
∀ (x6 : Bool) (w'6 : World),
x6 = picB g7 ∧ Ext w'5 w'6 →
bcase x6
(∃ (g8 : Int),
#[Value.int IntKind.i32 x2.fst] = #[Value.int IntKind.i32 g8] ∧
True ∧
∀ (x7 : Bool) (w'7 : World),
x7 = picB g8 ∧ Ext w'6 w'7 →
bcase x7 (∃ (c : Nat), (1 : Int) = (↑c : Int) ∧ goB g (0 : Nat) c = true ∧ Ext w'2 w'7)
(∃ (g9 : Int × Int),
#[Value.int IntKind.i32 x.fst, Value.int IntKind.i32 x2.fst] =
#[Value.int IntKind.i32 g9.fst, Value.int IntKind.i32 g9.snd] ∧
True ∧
∀ (x8 : Bool) (w'8 : World),
x8 = sylB g9.fst g9.snd ∧ Ext w'7 w'8 →
bcase x8 (∃ (c : Nat), (1 : Int) = (↑c : Int) ∧ goB g (0 : Nat) c = true ∧ Ext w'2 w'8)
(∃ (x9 : Nat), Value.int IntKind.i64 (↑x.snd : Int) = Value.int IntKind.i64 (↑x9 : Int) ∧ x9 = nextL g ∧ Ext w w'8)))
(∃ (g8 : Int × Int),
#[Value.int IntKind.i32 x.fst, Value.int IntKind.i32 x2.fst] =
#[Value.int IntKind.i32 g8.fst, Value.int IntKind.i32 g8.snd] ∧
True ∧
∀ (x7 : Bool) (w'7 : World),
x7 = sylB g8.fst g8.snd ∧ Ext w'6 w'7 →
bcase x7 (∃ (c : Nat), (1 : Int) = (↑c : Int) ∧ goB g (0 : Nat) c = true ∧ Ext w'2 w'7)
(∃ (x8 : Nat), Value.int IntKind.i64 (↑x.snd : Int) = Value.int IntKind.i64 (↑x8 : Int) ∧ x8 = nextL g ∧ Ext w w'7)))
(∃ (g7 : Int × Int),
#[Value.int IntKind.i32 x.fst, Value.int IntKind.i32 x2.fst] =
#[Value.int IntKind.i32 g7.fst, Value.int IntKind.i32 g7.snd] ∧
True ∧
∀ (x6 : Bool) (w'6 : World),
x6 = sylB g7.fst g7.snd ∧ Ext w'5 w'6 →
bcase x6 (∃ (c : Nat), (1 : Int) = (↑c : Int) ∧ goB g (0 : Nat) c = true ∧ Ext w'2 w'6)
(∃ (x7 : Nat), Value.int IntKind.i64 (↑x.snd : Int) = Value.int IntKind.i64 (↑x7 : Int) ∧ x7 = nextL g ∧ Ext w w'6))))
(bcase (x.fst == (8205 : Int))
(∃ (g6 : Int),
#[Value.int IntKind.i32 x.fst] = #[Value.int IntKind.i32 g6] ∧
True ∧
∀ (x5 : Bool) (w'5 : World),
x5 = picB g6 ∧ Ext w'4 w'5 →
bcase x5
(∃ (g7 : Int),
#[Value.int IntKind.i32 x2.fst] = #[Value.int IntKind.i32 g7] ∧
True ∧
∀ (x6 : Bool) (w'6 : World),
x6 = picB g7 ∧ Ext w'5 w'6 →
bcase x6 (∃ (c : Nat), (1 : Int) = (↑c : Int) ∧ goB g (0 : Nat) c = true ∧ Ext w'2 w'6)
(∃ (g8 : Int × Int),
#[Value.int IntKind.i32 x.fst, Value.int IntKind.i32 x2.fst] =
#[Value.int IntKind.i32 g8.fst, Value.int IntKind.i32 g8.snd] ∧
True ∧
∀ (x7 : Bool) (w'7 : World),
x7 = sylB g8.fst g8.snd ∧ Ext w'6 w'7 →
bcase x7 (∃ (c : Nat), (1 : Int) = (↑c : Int) ∧ goB g (0 : Nat) c = true ∧ Ext w'2 w'7)
(∃ (x8 : Nat), Value.int IntKind.i64 (↑x.snd : Int) = Value.int IntKind.i64 (↑x8 : Int) ∧ x8 = nextL g ∧ Ext w w'7)))
(∃ (g7 : Int × Int),
#[Value.int IntKind.i32 x.fst, Value.int IntKind.i32 x2.fst] =
#[Value.int IntKind.i32 g7.fst, Value.int IntKind.i32 g7.snd] ∧
True ∧
∀ (x6 : Bool) (w'6 : World),
x6 = sylB g7.fst g7.snd ∧ Ext w'5 w'6 →
bcase x6 (∃ (c : Nat), (1 : Int) = (↑c : Int) ∧ goB g (0 : Nat) c = true ∧ Ext w'2 w'6)
(∃ (x7 : Nat), Value.int IntKind.i64 (↑x.snd : Int) = Value.int IntKind.i64 (↑x7 : Int) ∧ x7 = nextL g ∧ Ext w w'6)))
(∃ (g6 : Int × Int),
#[Value.int IntKind.i32 x.fst, Value.int IntKind.i32 x2.fst] =
#[Value.int IntKind.i32 g6.fst, Value.int IntKind.i32 g6.snd] ∧
True ∧
∀ (x5 : Bool) (w'5 : World),
x5 = sylB g6.fst g6.snd ∧ Ext w'4 w'5 →
bcase x5 (∃ (c : Nat), (1 : Int) = (↑c : Int) ∧ goB g (0 : Nat) c = true ∧ Ext w'2 w'5)
(∃ (x6 : Nat), Value.int IntKind.i64 (↑x.snd : Int) = Value.int IntKind.i64 (↑x6 : Int) ∧ x6 = nextL g ∧ Ext w w'5)))))
(∃ (g5 : Int),
#[Value.int IntKind.i32 x2.fst] = #[Value.int IntKind.i32 g5] ∧
True ∧
∀ (x4 : Bool) (w'4 : World),
x4 = joinB g5 ∧ Ext w'3 w'4 →
bcase x4 (∃ (c : Nat), (1 : Int) = (↑c : Int) ∧ goB g (0 : Nat) c = true ∧ Ext w'2 w'4)
(∃ (g6 : Int),
#[Value.int IntKind.i32 x.fst] = #[Value.int IntKind.i32 g6] ∧
True ∧
∀ (x5 : Bool) (w'5 : World),
x5 = regB g6 ∧ Ext w'4 w'5 →
bcase x5
(∃ (g7 : Int),
#[Value.int IntKind.i32 x2.fst] = #[Value.int IntKind.i32 g7] ∧
True ∧
∀ (x6 : Bool) (w'6 : World),
x6 = regB g7 ∧ Ext w'5 w'6 →
bcase x6 (∃ (c : Nat), (1 : Int) = (↑c : Int) ∧ goB g (0 : Nat) c = true ∧ Ext w'2 w'6)
(bcase (x.fst == (8205 : Int))
(∃ (g8 : Int),
#[Value.int IntKind.i32 x.fst] = #[Value.int IntKind.i32 g8] ∧
True ∧
∀ (x7 : Bool) (w'7 : World),
x7 = picB g8 ∧ Ext w'6 w'7 →
bcase x7
(∃ (g9 : Int),
#[Value.int IntKind.i32 x2.fst] = #[Value.int IntKind.i32 g9] ∧
True ∧
∀ (x8 : Bool) (w'8 : World),
x8 = picB g9 ∧ Ext w'7 w'8 →
bcase x8 (∃ (c : Nat), (1 : Int) = (↑c : Int) ∧ goB g (0 : Nat) c = true ∧ Ext w'2 w'8)
(∃ (g10 : Int × Int),
#[Value.int IntKind.i32 x.fst, Value.int IntKind.i32 x2.fst] =
#[Value.int IntKind.i32 g10.fst, Value.int IntKind.i32 g10.snd] ∧
True ∧
∀ (x9 : Bool) (w'9 : World),
x9 = sylB g10.fst g10.snd ∧ Ext w'8 w'9 →
bcase x9 (∃ (c : Nat), (1 : Int) = (↑c : Int) ∧ goB g (0 : Nat) c = true ∧ Ext w'2 w'9)
(∃ (x10 : Nat), Value.int IntKind.i64 (↑x.snd : Int) = Value.int IntKind.i64 (↑x10 : Int) ∧ x10 = nextL g ∧ Ext w w'9)))
(∃ (g9 : Int × Int),
#[Value.int IntKind.i32 x.fst, Value.int IntKind.i32 x2.fst] =
#[Value.int IntKind.i32 g9.fst, Value.int IntKind.i32 g9.snd] ∧
True ∧
∀ (x8 : Bool) (w'8 : World),
x8 = sylB g9.fst g9.snd ∧ Ext w'7 w'8 →
bcase x8 (∃ (c : Nat), (1 : Int) = (↑c : Int) ∧ goB g (0 : Nat) c = true ∧ Ext w'2 w'8)
(∃ (x9 : Nat), Value.int IntKind.i64 (↑x.snd : Int) = Value.int IntKind.i64 (↑x9 : Int) ∧ x9 = nextL g ∧ Ext w w'8)))
(∃ (g8 : Int × Int),
#[Value.int IntKind.i32 x.fst, Value.int IntKind.i32 x2.fst] =
#[Value.int IntKind.i32 g8.fst, Value.int IntKind.i32 g8.snd] ∧
True ∧
∀ (x7 : Bool) (w'7 : World),
x7 = sylB g8.fst g8.snd ∧ Ext w'6 w'7 →
bcase x7 (∃ (c : Nat), (1 : Int) = (↑c : Int) ∧ goB g (0 : Nat) c = true ∧ Ext w'2 w'7)
(∃ (x8 : Nat), Value.int IntKind.i64 (↑x.snd : Int) = Value.int IntKind.i64 (↑x8 : Int) ∧ x8 = nextL g ∧ Ext w w'7))))
(bcase (x.fst == (8205 : Int))
(∃ (g7 : Int),
#[Value.int IntKind.i32 x.fst] = #[Value.int IntKind.i32 g7] ∧
True ∧
∀ (x6 : Bool) (w'6 : World),
x6 = picB g7 ∧ Ext w'5 w'6 →
bcase x6
(∃ (g8 : Int),
#[Value.int IntKind.i32 x2.fst] = #[Value.int IntKind.i32 g8] ∧
True ∧
∀ (x7 : Bool) (w'7 : World),
x7 = picB g8 ∧ Ext w'6 w'7 →
bcase x7 (∃ (c : Nat), (1 : Int) = (↑c : Int) ∧ goB g (0 : Nat) c = true ∧ Ext w'2 w'7)
(∃ (g9 : Int × Int),
#[Value.int IntKind.i32 x.fst, Value.int IntKind.i32 x2.fst] =
#[Value.int IntKind.i32 g9.fst, Value.int IntKind.i32 g9.snd] ∧
True ∧
∀ (x8 : Bool) (w'8 : World),
x8 = sylB g9.fst g9.snd ∧ Ext w'7 w'8 →
bcase x8 (∃ (c : Nat), (1 : Int) = (↑c : Int) ∧ goB g (0 : Nat) c = true ∧ Ext w'2 w'8)
(∃ (x9 : Nat), Value.int IntKind.i64 (↑x.snd : Int) = Value.int IntKind.i64 (↑x9 : Int) ∧ x9 = nextL g ∧ Ext w w'8)))
(∃ (g8 : Int × Int),
#[Value.int IntKind.i32 x.fst, Value.int IntKind.i32 x2.fst] =
#[Value.int IntKind.i32 g8.fst, Value.int IntKind.i32 g8.snd] ∧
True ∧
∀ (x7 : Bool) (w'7 : World),
x7 = sylB g8.fst g8.snd ∧ Ext w'6 w'7 →
bcase x7 (∃ (c : Nat), (1 : Int) = (↑c : Int) ∧ goB g (0 : Nat) c = true ∧ Ext w'2 w'7)
(∃ (x8 : Nat), Value.int IntKind.i64 (↑x.snd : Int) = Value.int IntKind.i64 (↑x8 : Int) ∧ x8 = nextL g ∧ Ext w w'7)))
(∃ (g7 : Int × Int),
#[Value.int IntKind.i32 x.fst, Value.int IntKind.i32 x2.fst] =
#[Value.int IntKind.i32 g7.fst, Value.int IntKind.i32 g7.snd] ∧
True ∧
∀ (x6 : Bool) (w'6 : World),
x6 = sylB g7.fst g7.snd ∧ Ext w'5 w'6 →
bcase x6 (∃ (c : Nat), (1 : Int) = (↑c : Int) ∧ goB g (0 : Nat) c = true ∧ Ext w'2 w'6)
(∃ (x7 : Nat),
Value.int IntKind.i64 (↑x.snd : Int) = Value.int IntKind.i64 (↑x7 : Int) ∧ x7 = nextL g ∧ Ext w w'6)))))) ∧
∀ (u : Nat → Value) (c : Nat) (w'3 : World),
(1 : Int) = (↑c : Int) ∧ goB g (0 : Nat) c = true ∧ Ext w'2 w'3 →
InR IntKind.i64 ((1 : Int) + (1 : Int)) ∧
InR IntKind.i64 ((↑x.snd : Int) + (↑x2.snd : Int)) ∧
∃ (y : Nat),
Value.int IntKind.i32 x.fst = Value.int IntKind.i32 (sg g (0 : Nat)) ∧
Value.int IntKind.i32 x2.fst = Value.int IntKind.i32 (sg g (y - (1 : Nat))) ∧
Value.int IntKind.i64 (2 : Int) = Value.int IntKind.i64 (↑y : Int) ∧
Value.int IntKind.i64 ((↑x.snd : Int) + (↑x2.snd : Int)) = Value.int IntKind.i64 (↑(pos g y) : Int) ∧
(1 : Nat) ≤ y ∧
y ≤ cnt g ∧ y ≤ (32 : Nat) ∧ (0 : Nat) < g.size ∧ goN g (0 : Nat) ((33 : Nat) - y) y = firstN g (0 : Nat) ∧ Ext w w'3)))
(∃ (g2 : Int),
#[Value.int IntKind.i32 x.fst] = #[Value.int IntKind.i32 g2] ∧
True ∧
∀ (x1 : Bool) (w'1 : World),
x1 = aloneB g2 ∧ Ext w' w'1 →
bcase x1
(∃ (y : Unit),
Value.int IntKind.i32 x.fst = Value.int IntKind.i32 (sg g (0 : Nat)) ∧
Value.int IntKind.i64 (↑x.snd : Int) = Value.int IntKind.i64 (↑(pos g (1 : Nat)) : Int) ∧
(0 : Nat) < g.size ∧ (isBad g (0 : Nat) = true ∨ aloneB (sg g (0 : Nat)) = true) ∧ Ext w w'1)
(∃ (k : Nat),
(↑x.snd : Int) = (↑k : Int) ∧
k ≤ g.size ∧
g.size ≤ g.size ∧
∃ (g3 : ByteArray),
#[Value.string (g.extract k g.size)] = #[Value.string g3] ∧
(U8 w'1 ∧ g3.size ≤ (67108864 : Nat)) ∧
∀ (x2 : Int × Nat) (w'2 : World),
x2.fst = nxR g3 ∧ x2.snd = nxN g3 ∧ Ext w'1 w'2 →
bcase ((↑x.snd : Int) == (↑g.size : Int) || x2.fst == (65533 : Int) && (↑x2.snd : Int) == (1 : Int))
(∃ (x3 : Nat), Value.int IntKind.i64 (↑x.snd : Int) = Value.int IntKind.i64 (↑x3 : Int) ∧ x3 = nextL g ∧ Ext w w'2)
(∃ (g4 : Int),
#[Value.int IntKind.i32 x2.fst] = #[Value.int IntKind.i32 g4] ∧
True ∧
∀ (x3 : Int) (w'3 : World),
x3 = kindR g4 ∧ Ext w'2 w'3 →
bcase (x3 == (2 : Int))
(bcase (x3 == (2 : Int)) (∃ (c : Nat), (1 : Int) = (↑c : Int) ∧ goB g (0 : Nat) c = true ∧ Ext w'2 w'3)
(∃ (g5 : Int),
#[Value.int IntKind.i32 x.fst] = #[Value.int IntKind.i32 g5] ∧
True ∧
∀ (x4 : Bool) (w'4 : World),
x4 = regB g5 ∧ Ext w'3 w'4 →
bcase x4
(∃ (g6 : Int),
#[Value.int IntKind.i32 x2.fst] = #[Value.int IntKind.i32 g6] ∧
True ∧
∀ (x5 : Bool) (w'5 : World),
x5 = regB g6 ∧ Ext w'4 w'5 →
bcase x5 (∃ (c : Nat), (1 : Int) = (↑c : Int) ∧ goB g (0 : Nat) c = true ∧ Ext w'2 w'5)
(bcase (x.fst == (8205 : Int))
(∃ (g7 : Int),
#[Value.int IntKind.i32 x.fst] = #[Value.int IntKind.i32 g7] ∧
True ∧
∀ (x6 : Bool) (w'6 : World),
x6 = picB g7 ∧ Ext w'5 w'6 →
bcase x6
(∃ (g8 : Int),
#[Value.int IntKind.i32 x2.fst] = #[Value.int IntKind.i32 g8] ∧
True ∧
∀ (x7 : Bool) (w'7 : World),
x7 = picB g8 ∧ Ext w'6 w'7 →
bcase x7 (∃ (c : Nat), (1 : Int) = (↑c : Int) ∧ goB g (0 : Nat) c = true ∧ Ext w'2 w'7)
(∃ (g9 : Int × Int),
#[Value.int IntKind.i32 x.fst, Value.int IntKind.i32 x2.fst] =
#[Value.int IntKind.i32 g9.fst, Value.int IntKind.i32 g9.snd] ∧
True ∧
∀ (x8 : Bool) (w'8 : World),
x8 = sylB g9.fst g9.snd ∧ Ext w'7 w'8 →
bcase x8 (∃ (c : Nat), (1 : Int) = (↑c : Int) ∧ goB g (0 : Nat) c = true ∧ Ext w'2 w'8)
(∃ (x9 : Nat), Value.int IntKind.i64 (↑x.snd : Int) = Value.int IntKind.i64 (↑x9 : Int) ∧ x9 = nextL g ∧ Ext w w'8)))
(∃ (g8 : Int × Int),
#[Value.int IntKind.i32 x.fst, Value.int IntKind.i32 x2.fst] =
#[Value.int IntKind.i32 g8.fst, Value.int IntKind.i32 g8.snd] ∧
True ∧
∀ (x7 : Bool) (w'7 : World),
x7 = sylB g8.fst g8.snd ∧ Ext w'6 w'7 →
bcase x7 (∃ (c : Nat), (1 : Int) = (↑c : Int) ∧ goB g (0 : Nat) c = true ∧ Ext w'2 w'7)
(∃ (x8 : Nat), Value.int IntKind.i64 (↑x.snd : Int) = Value.int IntKind.i64 (↑x8 : Int) ∧ x8 = nextL g ∧ Ext w w'7)))
(∃ (g7 : Int × Int),
#[Value.int IntKind.i32 x.fst, Value.int IntKind.i32 x2.fst] =
#[Value.int IntKind.i32 g7.fst, Value.int IntKind.i32 g7.snd] ∧
True ∧
∀ (x6 : Bool) (w'6 : World),
x6 = sylB g7.fst g7.snd ∧ Ext w'5 w'6 →
bcase x6 (∃ (c : Nat), (1 : Int) = (↑c : Int) ∧ goB g (0 : Nat) c = true ∧ Ext w'2 w'6)
(∃ (x7 : Nat), Value.int IntKind.i64 (↑x.snd : Int) = Value.int IntKind.i64 (↑x7 : Int) ∧ x7 = nextL g ∧ Ext w w'6))))
(bcase (x.fst == (8205 : Int))
(∃ (g6 : Int),
#[Value.int IntKind.i32 x.fst] = #[Value.int IntKind.i32 g6] ∧
True ∧
∀ (x5 : Bool) (w'5 : World),
x5 = picB g6 ∧ Ext w'4 w'5 →
bcase x5
(∃ (g7 : Int),
#[Value.int IntKind.i32 x2.fst] = #[Value.int IntKind.i32 g7] ∧
True ∧
∀ (x6 : Bool) (w'6 : World),
x6 = picB g7 ∧ Ext w'5 w'6 →
bcase x6 (∃ (c : Nat), (1 : Int) = (↑c : Int) ∧ goB g (0 : Nat) c = true ∧ Ext w'2 w'6)
(∃ (g8 : Int × Int),
#[Value.int IntKind.i32 x.fst, Value.int IntKind.i32 x2.fst] =
#[Value.int IntKind.i32 g8.fst, Value.int IntKind.i32 g8.snd] ∧
True ∧
∀ (x7 : Bool) (w'7 : World),
x7 = sylB g8.fst g8.snd ∧ Ext w'6 w'7 →
bcase x7 (∃ (c : Nat), (1 : Int) = (↑c : Int) ∧ goB g (0 : Nat) c = true ∧ Ext w'2 w'7)
(∃ (x8 : Nat), Value.int IntKind.i64 (↑x.snd : Int) = Value.int IntKind.i64 (↑x8 : Int) ∧ x8 = nextL g ∧ Ext w w'7)))
(∃ (g7 : Int × Int),
#[Value.int IntKind.i32 x.fst, Value.int IntKind.i32 x2.fst] =
#[Value.int IntKind.i32 g7.fst, Value.int IntKind.i32 g7.snd] ∧
True ∧
∀ (x6 : Bool) (w'6 : World),
x6 = sylB g7.fst g7.snd ∧ Ext w'5 w'6 →
bcase x6 (∃ (c : Nat), (1 : Int) = (↑c : Int) ∧ goB g (0 : Nat) c = true ∧ Ext w'2 w'6)
(∃ (x7 : Nat), Value.int IntKind.i64 (↑x.snd : Int) = Value.int IntKind.i64 (↑x7 : Int) ∧ x7 = nextL g ∧ Ext w w'6)))
(∃ (g6 : Int × Int),
#[Value.int IntKind.i32 x.fst, Value.int IntKind.i32 x2.fst] =
#[Value.int IntKind.i32 g6.fst, Value.int IntKind.i32 g6.snd] ∧
True ∧
∀ (x5 : Bool) (w'5 : World),
x5 = sylB g6.fst g6.snd ∧ Ext w'4 w'5 →
bcase x5 (∃ (c : Nat), (1 : Int) = (↑c : Int) ∧ goB g (0 : Nat) c = true ∧ Ext w'2 w'5)
(∃ (x6 : Nat), Value.int IntKind.i64 (↑x.snd : Int) = Value.int IntKind.i64 (↑x6 : Int) ∧ x6 = nextL g ∧ Ext w w'5)))))
(∃ (g5 : Int),
#[Value.int IntKind.i32 x2.fst] = #[Value.int IntKind.i32 g5] ∧
True ∧
∀ (x4 : Bool) (w'4 : World),
x4 = joinB g5 ∧ Ext w'3 w'4 →
bcase x4 (∃ (c : Nat), (1 : Int) = (↑c : Int) ∧ goB g (0 : Nat) c = true ∧ Ext w'2 w'4)
(∃ (g6 : Int),
#[Value.int IntKind.i32 x.fst] = #[Value.int IntKind.i32 g6] ∧
True ∧
∀ (x5 : Bool) (w'5 : World),
x5 = regB g6 ∧ Ext w'4 w'5 →
bcase x5
(∃ (g7 : Int),
#[Value.int IntKind.i32 x2.fst] = #[Value.int IntKind.i32 g7] ∧
True ∧
∀ (x6 : Bool) (w'6 : World),
x6 = regB g7 ∧ Ext w'5 w'6 →
bcase x6 (∃ (c : Nat), (1 : Int) = (↑c : Int) ∧ goB g (0 : Nat) c = true ∧ Ext w'2 w'6)
(bcase (x.fst == (8205 : Int))
(∃ (g8 : Int),
#[Value.int IntKind.i32 x.fst] = #[Value.int IntKind.i32 g8] ∧
True ∧
∀ (x7 : Bool) (w'7 : World),
x7 = picB g8 ∧ Ext w'6 w'7 →
bcase x7
(∃ (g9 : Int),
#[Value.int IntKind.i32 x2.fst] = #[Value.int IntKind.i32 g9] ∧
True ∧
∀ (x8 : Bool) (w'8 : World),
x8 = picB g9 ∧ Ext w'7 w'8 →
bcase x8 (∃ (c : Nat), (1 : Int) = (↑c : Int) ∧ goB g (0 : Nat) c = true ∧ Ext w'2 w'8)
(∃ (g10 : Int × Int),
#[Value.int IntKind.i32 x.fst, Value.int IntKind.i32 x2.fst] =
#[Value.int IntKind.i32 g10.fst, Value.int IntKind.i32 g10.snd] ∧
True ∧
∀ (x9 : Bool) (w'9 : World),
x9 = sylB g10.fst g10.snd ∧ Ext w'8 w'9 →
bcase x9 (∃ (c : Nat), (1 : Int) = (↑c : Int) ∧ goB g (0 : Nat) c = true ∧ Ext w'2 w'9)
(∃ (x10 : Nat), Value.int IntKind.i64 (↑x.snd : Int) = Value.int IntKind.i64 (↑x10 : Int) ∧ x10 = nextL g ∧ Ext w w'9)))
(∃ (g9 : Int × Int),
#[Value.int IntKind.i32 x.fst, Value.int IntKind.i32 x2.fst] =
#[Value.int IntKind.i32 g9.fst, Value.int IntKind.i32 g9.snd] ∧
True ∧
∀ (x8 : Bool) (w'8 : World),
x8 = sylB g9.fst g9.snd ∧ Ext w'7 w'8 →
bcase x8 (∃ (c : Nat), (1 : Int) = (↑c : Int) ∧ goB g (0 : Nat) c = true ∧ Ext w'2 w'8)
(∃ (x9 : Nat), Value.int IntKind.i64 (↑x.snd : Int) = Value.int IntKind.i64 (↑x9 : Int) ∧ x9 = nextL g ∧ Ext w w'8)))
(∃ (g8 : Int × Int),
#[Value.int IntKind.i32 x.fst, Value.int IntKind.i32 x2.fst] =
#[Value.int IntKind.i32 g8.fst, Value.int IntKind.i32 g8.snd] ∧
True ∧
∀ (x7 : Bool) (w'7 : World),
x7 = sylB g8.fst g8.snd ∧ Ext w'6 w'7 →
bcase x7 (∃ (c : Nat), (1 : Int) = (↑c : Int) ∧ goB g (0 : Nat) c = true ∧ Ext w'2 w'7)
(∃ (x8 : Nat), Value.int IntKind.i64 (↑x.snd : Int) = Value.int IntKind.i64 (↑x8 : Int) ∧ x8 = nextL g ∧ Ext w w'7))))
(bcase (x.fst == (8205 : Int))
(∃ (g7 : Int),
#[Value.int IntKind.i32 x.fst] = #[Value.int IntKind.i32 g7] ∧
True ∧
∀ (x6 : Bool) (w'6 : World),
x6 = picB g7 ∧ Ext w'5 w'6 →
bcase x6
(∃ (g8 : Int),
#[Value.int IntKind.i32 x2.fst] = #[Value.int IntKind.i32 g8] ∧
True ∧
∀ (x7 : Bool) (w'7 : World),
x7 = picB g8 ∧ Ext w'6 w'7 →
bcase x7 (∃ (c : Nat), (1 : Int) = (↑c : Int) ∧ goB g (0 : Nat) c = true ∧ Ext w'2 w'7)
(∃ (g9 : Int × Int),
#[Value.int IntKind.i32 x.fst, Value.int IntKind.i32 x2.fst] =
#[Value.int IntKind.i32 g9.fst, Value.int IntKind.i32 g9.snd] ∧
True ∧
∀ (x8 : Bool) (w'8 : World),
x8 = sylB g9.fst g9.snd ∧ Ext w'7 w'8 →
bcase x8 (∃ (c : Nat), (1 : Int) = (↑c : Int) ∧ goB g (0 : Nat) c = true ∧ Ext w'2 w'8)
(∃ (x9 : Nat), Value.int IntKind.i64 (↑x.snd : Int) = Value.int IntKind.i64 (↑x9 : Int) ∧ x9 = nextL g ∧ Ext w w'8)))
(∃ (g8 : Int × Int),
#[Value.int IntKind.i32 x.fst, Value.int IntKind.i32 x2.fst] =
#[Value.int IntKind.i32 g8.fst, Value.int IntKind.i32 g8.snd] ∧
True ∧
∀ (x7 : Bool) (w'7 : World),
x7 = sylB g8.fst g8.snd ∧ Ext w'6 w'7 →
bcase x7 (∃ (c : Nat), (1 : Int) = (↑c : Int) ∧ goB g (0 : Nat) c = true ∧ Ext w'2 w'7)
(∃ (x8 : Nat), Value.int IntKind.i64 (↑x.snd : Int) = Value.int IntKind.i64 (↑x8 : Int) ∧ x8 = nextL g ∧ Ext w w'7)))
(∃ (g7 : Int × Int),
#[Value.int IntKind.i32 x.fst, Value.int IntKind.i32 x2.fst] =
#[Value.int IntKind.i32 g7.fst, Value.int IntKind.i32 g7.snd] ∧
True ∧
∀ (x6 : Bool) (w'6 : World),
x6 = sylB g7.fst g7.snd ∧ Ext w'5 w'6 →
bcase x6 (∃ (c : Nat), (1 : Int) = (↑c : Int) ∧ goB g (0 : Nat) c = true ∧ Ext w'2 w'6)
(∃ (x7 : Nat),
Value.int IntKind.i64 (↑x.snd : Int) = Value.int IntKind.i64 (↑x7 : Int) ∧ x7 = nextL g ∧ Ext w w'6)))))) ∧
∀ (u : Nat → Value) (c : Nat) (w'3 : World),
(1 : Int) = (↑c : Int) ∧ goB g (0 : Nat) c = true ∧ Ext w'2 w'3 →
InR IntKind.i64 ((1 : Int) + (1 : Int)) ∧
InR IntKind.i64 ((↑x.snd : Int) + (↑x2.snd : Int)) ∧
∃ (y : Nat),
Value.int IntKind.i32 x.fst = Value.int IntKind.i32 (sg g (0 : Nat)) ∧
Value.int IntKind.i32 x2.fst = Value.int IntKind.i32 (sg g (y - (1 : Nat))) ∧
Value.int IntKind.i64 (2 : Int) = Value.int IntKind.i64 (↑y : Int) ∧
Value.int IntKind.i64 ((↑x.snd : Int) + (↑x2.snd : Int)) = Value.int IntKind.i64 (↑(pos g y) : Int) ∧
(1 : Nat) ≤ y ∧
y ≤ cnt g ∧
y ≤ (32 : Nat) ∧ (0 : Nat) < g.size ∧ goN g (0 : Nat) ((33 : Nat) - y) y = firstN g (0 : Nat) ∧ Ext w w'3)))) ∧
(∀ (u : Nat → Value) (x : Nat) (w' : World),
(1 : Nat) ≤ x ∧
x ≤ cnt g ∧ x ≤ (32 : Nat) ∧ (0 : Nat) < g.size ∧ goN g (0 : Nat) ((33 : Nat) - x) x = firstN g (0 : Nat) ∧ Ext w w' →
bcase ((↑x : Int) == (32 : Int))
(∃ (x1 : Nat), Value.int IntKind.i64 (↑(pos g x) : Int) = Value.int IntKind.i64 (↑x1 : Int) ∧ x1 = nextL g ∧ Ext w w')
(∃ (k : Nat),
(↑(pos g x) : Int) = (↑k : Int) ∧
k ≤ g.size ∧
g.size ≤ g.size ∧
∃ (g1 : ByteArray),
#[Value.string (g.extract k g.size)] = #[Value.string g1] ∧
(U8 w' ∧ g1.size ≤ (67108864 : Nat)) ∧
∀ (x1 : Int × Nat) (w'1 : World),
x1.fst = nxR g1 ∧ x1.snd = nxN g1 ∧ Ext w' w'1 →
bcase ((↑(pos g x) : Int) == (↑g.size : Int) || x1.fst == (65533 : Int) && (↑x1.snd : Int) == (1 : Int))
(∃ (x2 : Nat), Value.int IntKind.i64 (↑(pos g x) : Int) = Value.int IntKind.i64 (↑x2 : Int) ∧ x2 = nextL g ∧ Ext w w'1)
(∃ (g2 : Int),
#[Value.int IntKind.i32 x1.fst] = #[Value.int IntKind.i32 g2] ∧
True ∧
∀ (x2 : Int) (w'2 : World),
x2 = kindR g2 ∧ Ext w'1 w'2 →
bcase (x2 == (2 : Int))
(bcase (x2 == (2 : Int)) (∃ (c : Nat), (↑x : Int) = (↑c : Int) ∧ goB g (0 : Nat) c = true ∧ Ext w'1 w'2)
(bcase ((↑x : Int) == (1 : Int))
(∃ (g3 : Int),
#[Value.int IntKind.i32 (sg g (0 : Nat))] = #[Value.int IntKind.i32 g3] ∧
True ∧
∀ (x3 : Bool) (w'3 : World),
x3 = regB g3 ∧ Ext w'2 w'3 →
bcase x3
(∃ (g4 : Int),
#[Value.int IntKind.i32 x1.fst] = #[Value.int IntKind.i32 g4] ∧
True ∧
∀ (x4 : Bool) (w'4 : World),
x4 = regB g4 ∧ Ext w'3 w'4 →
bcase x4 (∃ (c : Nat), (↑x : Int) = (↑c : Int) ∧ goB g (0 : Nat) c = true ∧ Ext w'1 w'4)
(bcase (sg g (x - (1 : Nat)) == (8205 : Int))
(∃ (g5 : Int),
#[Value.int IntKind.i32 (sg g (0 : Nat))] = #[Value.int IntKind.i32 g5] ∧
True ∧
∀ (x5 : Bool) (w'5 : World),
x5 = picB g5 ∧ Ext w'4 w'5 →
bcase x5
(∃ (g6 : Int),
#[Value.int IntKind.i32 x1.fst] = #[Value.int IntKind.i32 g6] ∧
True ∧
∀ (x6 : Bool) (w'6 : World),
x6 = picB g6 ∧ Ext w'5 w'6 →
bcase x6 (∃ (c : Nat), (↑x : Int) = (↑c : Int) ∧ goB g (0 : Nat) c = true ∧ Ext w'1 w'6)
(∃ (g7 : Int × Int),
#[Value.int IntKind.i32 (sg g (x - (1 : Nat))), Value.int IntKind.i32 x1.fst] =
#[Value.int IntKind.i32 g7.fst, Value.int IntKind.i32 g7.snd] ∧
True ∧
∀ (x7 : Bool) (w'7 : World),
x7 = sylB g7.fst g7.snd ∧ Ext w'6 w'7 →
bcase x7 (∃ (c : Nat), (↑x : Int) = (↑c : Int) ∧ goB g (0 : Nat) c = true ∧ Ext w'1 w'7)
(∃ (x8 : Nat),
Value.int IntKind.i64 (↑(pos g x) : Int) = Value.int IntKind.i64 (↑x8 : Int) ∧ x8 = nextL g ∧ Ext w w'7)))
(∃ (g6 : Int × Int),
#[Value.int IntKind.i32 (sg g (x - (1 : Nat))), Value.int IntKind.i32 x1.fst] =
#[Value.int IntKind.i32 g6.fst, Value.int IntKind.i32 g6.snd] ∧
True ∧
∀ (x6 : Bool) (w'6 : World),
x6 = sylB g6.fst g6.snd ∧ Ext w'5 w'6 →
bcase x6 (∃ (c : Nat), (↑x : Int) = (↑c : Int) ∧ goB g (0 : Nat) c = true ∧ Ext w'1 w'6)
(∃ (x7 : Nat),
Value.int IntKind.i64 (↑(pos g x) : Int) = Value.int IntKind.i64 (↑x7 : Int) ∧ x7 = nextL g ∧ Ext w w'6)))
(∃ (g5 : Int × Int),
#[Value.int IntKind.i32 (sg g (x - (1 : Nat))), Value.int IntKind.i32 x1.fst] =
#[Value.int IntKind.i32 g5.fst, Value.int IntKind.i32 g5.snd] ∧
True ∧
∀ (x5 : Bool) (w'5 : World),
x5 = sylB g5.fst g5.snd ∧ Ext w'4 w'5 →
bcase x5 (∃ (c : Nat), (↑x : Int) = (↑c : Int) ∧ goB g (0 : Nat) c = true ∧ Ext w'1 w'5)
(∃ (x6 : Nat),
Value.int IntKind.i64 (↑(pos g x) : Int) = Value.int IntKind.i64 (↑x6 : Int) ∧ x6 = nextL g ∧ Ext w w'5))))
(bcase (sg g (x - (1 : Nat)) == (8205 : Int))
(∃ (g4 : Int),
#[Value.int IntKind.i32 (sg g (0 : Nat))] = #[Value.int IntKind.i32 g4] ∧
True ∧
∀ (x4 : Bool) (w'4 : World),
x4 = picB g4 ∧ Ext w'3 w'4 →
bcase x4
(∃ (g5 : Int),
#[Value.int IntKind.i32 x1.fst] = #[Value.int IntKind.i32 g5] ∧
True ∧
∀ (x5 : Bool) (w'5 : World),
x5 = picB g5 ∧ Ext w'4 w'5 →
bcase x5 (∃ (c : Nat), (↑x : Int) = (↑c : Int) ∧ goB g (0 : Nat) c = true ∧ Ext w'1 w'5)
(∃ (g6 : Int × Int),
#[Value.int IntKind.i32 (sg g (x - (1 : Nat))), Value.int IntKind.i32 x1.fst] =
#[Value.int IntKind.i32 g6.fst, Value.int IntKind.i32 g6.snd] ∧
True ∧
∀ (x6 : Bool) (w'6 : World),
x6 = sylB g6.fst g6.snd ∧ Ext w'5 w'6 →
bcase x6 (∃ (c : Nat), (↑x : Int) = (↑c : Int) ∧ goB g (0 : Nat) c = true ∧ Ext w'1 w'6)
(∃ (x7 : Nat),
Value.int IntKind.i64 (↑(pos g x) : Int) = Value.int IntKind.i64 (↑x7 : Int) ∧ x7 = nextL g ∧ Ext w w'6)))
(∃ (g5 : Int × Int),
#[Value.int IntKind.i32 (sg g (x - (1 : Nat))), Value.int IntKind.i32 x1.fst] =
#[Value.int IntKind.i32 g5.fst, Value.int IntKind.i32 g5.snd] ∧
True ∧
∀ (x5 : Bool) (w'5 : World),
x5 = sylB g5.fst g5.snd ∧ Ext w'4 w'5 →
bcase x5 (∃ (c : Nat), (↑x : Int) = (↑c : Int) ∧ goB g (0 : Nat) c = true ∧ Ext w'1 w'5)
(∃ (x6 : Nat),
Value.int IntKind.i64 (↑(pos g x) : Int) = Value.int IntKind.i64 (↑x6 : Int) ∧ x6 = nextL g ∧ Ext w w'5)))
(∃ (g4 : Int × Int),
#[Value.int IntKind.i32 (sg g (x - (1 : Nat))), Value.int IntKind.i32 x1.fst] =
#[Value.int IntKind.i32 g4.fst, Value.int IntKind.i32 g4.snd] ∧
True ∧
∀ (x4 : Bool) (w'4 : World),
x4 = sylB g4.fst g4.snd ∧ Ext w'3 w'4 →
bcase x4 (∃ (c : Nat), (↑x : Int) = (↑c : Int) ∧ goB g (0 : Nat) c = true ∧ Ext w'1 w'4)
(∃ (x5 : Nat),
Value.int IntKind.i64 (↑(pos g x) : Int) = Value.int IntKind.i64 (↑x5 : Int) ∧ x5 = nextL g ∧ Ext w w'4))))
(bcase (sg g (x - (1 : Nat)) == (8205 : Int))
(∃ (g3 : Int),
#[Value.int IntKind.i32 (sg g (0 : Nat))] = #[Value.int IntKind.i32 g3] ∧
True ∧
∀ (x3 : Bool) (w'3 : World),
x3 = picB g3 ∧ Ext w'2 w'3 →
bcase x3
(∃ (g4 : Int),
#[Value.int IntKind.i32 x1.fst] = #[Value.int IntKind.i32 g4] ∧
True ∧
∀ (x4 : Bool) (w'4 : World),
x4 = picB g4 ∧ Ext w'3 w'4 →
bcase x4 (∃ (c : Nat), (↑x : Int) = (↑c : Int) ∧ goB g (0 : Nat) c = true ∧ Ext w'1 w'4)
(∃ (g5 : Int × Int),
#[Value.int IntKind.i32 (sg g (x - (1 : Nat))), Value.int IntKind.i32 x1.fst] =
#[Value.int IntKind.i32 g5.fst, Value.int IntKind.i32 g5.snd] ∧
True ∧
∀ (x5 : Bool) (w'5 : World),
x5 = sylB g5.fst g5.snd ∧ Ext w'4 w'5 →
bcase x5 (∃ (c : Nat), (↑x : Int) = (↑c : Int) ∧ goB g (0 : Nat) c = true ∧ Ext w'1 w'5)
(∃ (x6 : Nat),
Value.int IntKind.i64 (↑(pos g x) : Int) = Value.int IntKind.i64 (↑x6 : Int) ∧ x6 = nextL g ∧ Ext w w'5)))
(∃ (g4 : Int × Int),
#[Value.int IntKind.i32 (sg g (x - (1 : Nat))), Value.int IntKind.i32 x1.fst] =
#[Value.int IntKind.i32 g4.fst, Value.int IntKind.i32 g4.snd] ∧
True ∧
∀ (x4 : Bool) (w'4 : World),
x4 = sylB g4.fst g4.snd ∧ Ext w'3 w'4 →
bcase x4 (∃ (c : Nat), (↑x : Int) = (↑c : Int) ∧ goB g (0 : Nat) c = true ∧ Ext w'1 w'4)
(∃ (x5 : Nat),
Value.int IntKind.i64 (↑(pos g x) : Int) = Value.int IntKind.i64 (↑x5 : Int) ∧ x5 = nextL g ∧ Ext w w'4)))
(∃ (g3 : Int × Int),
#[Value.int IntKind.i32 (sg g (x - (1 : Nat))), Value.int IntKind.i32 x1.fst] =
#[Value.int IntKind.i32 g3.fst, Value.int IntKind.i32 g3.snd] ∧
True ∧
∀ (x3 : Bool) (w'3 : World),
x3 = sylB g3.fst g3.snd ∧ Ext w'2 w'3 →
bcase x3 (∃ (c : Nat), (↑x : Int) = (↑c : Int) ∧ goB g (0 : Nat) c = true ∧ Ext w'1 w'3)
(∃ (x4 : Nat),
Value.int IntKind.i64 (↑(pos g x) : Int) = Value.int IntKind.i64 (↑x4 : Int) ∧ x4 = nextL g ∧ Ext w w'3)))))
(∃ (g3 : Int),
#[Value.int IntKind.i32 x1.fst] = #[Value.int IntKind.i32 g3] ∧
True ∧
∀ (x3 : Bool) (w'3 : World),
x3 = joinB g3 ∧ Ext w'2 w'3 →
bcase x3 (∃ (c : Nat), (↑x : Int) = (↑c : Int) ∧ goB g (0 : Nat) c = true ∧ Ext w'1 w'3)
(bcase ((↑x : Int) == (1 : Int))
(∃ (g4 : Int),
#[Value.int IntKind.i32 (sg g (0 : Nat))] = #[Value.int IntKind.i32 g4] ∧
True ∧
∀ (x4 : Bool) (w'4 : World),
x4 = regB g4 ∧ Ext w'3 w'4 →
bcase x4
(∃ (g5 : Int),
#[Value.int IntKind.i32 x1.fst] = #[Value.int IntKind.i32 g5] ∧
True ∧
∀ (x5 : Bool) (w'5 : World),
x5 = regB g5 ∧ Ext w'4 w'5 →
bcase x5 (∃ (c : Nat), (↑x : Int) = (↑c : Int) ∧ goB g (0 : Nat) c = true ∧ Ext w'1 w'5)
(bcase (sg g (x - (1 : Nat)) == (8205 : Int))
(∃ (g6 : Int),
#[Value.int IntKind.i32 (sg g (0 : Nat))] = #[Value.int IntKind.i32 g6] ∧
True ∧
∀ (x6 : Bool) (w'6 : World),
x6 = picB g6 ∧ Ext w'5 w'6 →
bcase x6
(∃ (g7 : Int),
#[Value.int IntKind.i32 x1.fst] = #[Value.int IntKind.i32 g7] ∧
True ∧
∀ (x7 : Bool) (w'7 : World),
x7 = picB g7 ∧ Ext w'6 w'7 →
bcase x7 (∃ (c : Nat), (↑x : Int) = (↑c : Int) ∧ goB g (0 : Nat) c = true ∧ Ext w'1 w'7)
(∃ (g8 : Int × Int),
#[Value.int IntKind.i32 (sg g (x - (1 : Nat))), Value.int IntKind.i32 x1.fst] =
#[Value.int IntKind.i32 g8.fst, Value.int IntKind.i32 g8.snd] ∧
True ∧
∀ (x8 : Bool) (w'8 : World),
x8 = sylB g8.fst g8.snd ∧ Ext w'7 w'8 →
bcase x8 (∃ (c : Nat), (↑x : Int) = (↑c : Int) ∧ goB g (0 : Nat) c = true ∧ Ext w'1 w'8)
(∃ (x9 : Nat),
Value.int IntKind.i64 (↑(pos g x) : Int) = Value.int IntKind.i64 (↑x9 : Int) ∧ x9 = nextL g ∧ Ext w w'8)))
(∃ (g7 : Int × Int),
#[Value.int IntKind.i32 (sg g (x - (1 : Nat))), Value.int IntKind.i32 x1.fst] =
#[Value.int IntKind.i32 g7.fst, Value.int IntKind.i32 g7.snd] ∧
True ∧
∀ (x7 : Bool) (w'7 : World),
x7 = sylB g7.fst g7.snd ∧ Ext w'6 w'7 →
bcase x7 (∃ (c : Nat), (↑x : Int) = (↑c : Int) ∧ goB g (0 : Nat) c = true ∧ Ext w'1 w'7)
(∃ (x8 : Nat),
Value.int IntKind.i64 (↑(pos g x) : Int) = Value.int IntKind.i64 (↑x8 : Int) ∧ x8 = nextL g ∧ Ext w w'7)))
(∃ (g6 : Int × Int),
#[Value.int IntKind.i32 (sg g (x - (1 : Nat))), Value.int IntKind.i32 x1.fst] =
#[Value.int IntKind.i32 g6.fst, Value.int IntKind.i32 g6.snd] ∧
True ∧
∀ (x6 : Bool) (w'6 : World),
x6 = sylB g6.fst g6.snd ∧ Ext w'5 w'6 →
bcase x6 (∃ (c : Nat), (↑x : Int) = (↑c : Int) ∧ goB g (0 : Nat) c = true ∧ Ext w'1 w'6)
(∃ (x7 : Nat),
Value.int IntKind.i64 (↑(pos g x) : Int) = Value.int IntKind.i64 (↑x7 : Int) ∧ x7 = nextL g ∧ Ext w w'6))))
(bcase (sg g (x - (1 : Nat)) == (8205 : Int))
(∃ (g5 : Int),
#[Value.int IntKind.i32 (sg g (0 : Nat))] = #[Value.int IntKind.i32 g5] ∧
True ∧
∀ (x5 : Bool) (w'5 : World),
x5 = picB g5 ∧ Ext w'4 w'5 →
bcase x5
(∃ (g6 : Int),
#[Value.int IntKind.i32 x1.fst] = #[Value.int IntKind.i32 g6] ∧
True ∧
∀ (x6 : Bool) (w'6 : World),
x6 = picB g6 ∧ Ext w'5 w'6 →
bcase x6 (∃ (c : Nat), (↑x : Int) = (↑c : Int) ∧ goB g (0 : Nat) c = true ∧ Ext w'1 w'6)
(∃ (g7 : Int × Int),
#[Value.int IntKind.i32 (sg g (x - (1 : Nat))), Value.int IntKind.i32 x1.fst] =
#[Value.int IntKind.i32 g7.fst, Value.int IntKind.i32 g7.snd] ∧
True ∧
∀ (x7 : Bool) (w'7 : World),
x7 = sylB g7.fst g7.snd ∧ Ext w'6 w'7 →
bcase x7 (∃ (c : Nat), (↑x : Int) = (↑c : Int) ∧ goB g (0 : Nat) c = true ∧ Ext w'1 w'7)
(∃ (x8 : Nat),
Value.int IntKind.i64 (↑(pos g x) : Int) = Value.int IntKind.i64 (↑x8 : Int) ∧ x8 = nextL g ∧ Ext w w'7)))
(∃ (g6 : Int × Int),
#[Value.int IntKind.i32 (sg g (x - (1 : Nat))), Value.int IntKind.i32 x1.fst] =
#[Value.int IntKind.i32 g6.fst, Value.int IntKind.i32 g6.snd] ∧
True ∧
∀ (x6 : Bool) (w'6 : World),
x6 = sylB g6.fst g6.snd ∧ Ext w'5 w'6 →
bcase x6 (∃ (c : Nat), (↑x : Int) = (↑c : Int) ∧ goB g (0 : Nat) c = true ∧ Ext w'1 w'6)
(∃ (x7 : Nat),
Value.int IntKind.i64 (↑(pos g x) : Int) = Value.int IntKind.i64 (↑x7 : Int) ∧ x7 = nextL g ∧ Ext w w'6)))
(∃ (g5 : Int × Int),
#[Value.int IntKind.i32 (sg g (x - (1 : Nat))), Value.int IntKind.i32 x1.fst] =
#[Value.int IntKind.i32 g5.fst, Value.int IntKind.i32 g5.snd] ∧
True ∧
∀ (x5 : Bool) (w'5 : World),
x5 = sylB g5.fst g5.snd ∧ Ext w'4 w'5 →
bcase x5 (∃ (c : Nat), (↑x : Int) = (↑c : Int) ∧ goB g (0 : Nat) c = true ∧ Ext w'1 w'5)
(∃ (x6 : Nat),
Value.int IntKind.i64 (↑(pos g x) : Int) = Value.int IntKind.i64 (↑x6 : Int) ∧ x6 = nextL g ∧ Ext w w'5))))
(bcase (sg g (x - (1 : Nat)) == (8205 : Int))
(∃ (g4 : Int),
#[Value.int IntKind.i32 (sg g (0 : Nat))] = #[Value.int IntKind.i32 g4] ∧
True ∧
∀ (x4 : Bool) (w'4 : World),
x4 = picB g4 ∧ Ext w'3 w'4 →
bcase x4
(∃ (g5 : Int),
#[Value.int IntKind.i32 x1.fst] = #[Value.int IntKind.i32 g5] ∧
True ∧
∀ (x5 : Bool) (w'5 : World),
x5 = picB g5 ∧ Ext w'4 w'5 →
bcase x5 (∃ (c : Nat), (↑x : Int) = (↑c : Int) ∧ goB g (0 : Nat) c = true ∧ Ext w'1 w'5)
(∃ (g6 : Int × Int),
#[Value.int IntKind.i32 (sg g (x - (1 : Nat))), Value.int IntKind.i32 x1.fst] =
#[Value.int IntKind.i32 g6.fst, Value.int IntKind.i32 g6.snd] ∧
True ∧
∀ (x6 : Bool) (w'6 : World),
x6 = sylB g6.fst g6.snd ∧ Ext w'5 w'6 →
bcase x6 (∃ (c : Nat), (↑x : Int) = (↑c : Int) ∧ goB g (0 : Nat) c = true ∧ Ext w'1 w'6)
(∃ (x7 : Nat),
Value.int IntKind.i64 (↑(pos g x) : Int) = Value.int IntKind.i64 (↑x7 : Int) ∧ x7 = nextL g ∧ Ext w w'6)))
(∃ (g5 : Int × Int),
#[Value.int IntKind.i32 (sg g (x - (1 : Nat))), Value.int IntKind.i32 x1.fst] =
#[Value.int IntKind.i32 g5.fst, Value.int IntKind.i32 g5.snd] ∧
True ∧
∀ (x5 : Bool) (w'5 : World),
x5 = sylB g5.fst g5.snd ∧ Ext w'4 w'5 →
bcase x5 (∃ (c : Nat), (↑x : Int) = (↑c : Int) ∧ goB g (0 : Nat) c = true ∧ Ext w'1 w'5)
(∃ (x6 : Nat),
Value.int IntKind.i64 (↑(pos g x) : Int) = Value.int IntKind.i64 (↑x6 : Int) ∧ x6 = nextL g ∧ Ext w w'5)))
(∃ (g4 : Int × Int),
#[Value.int IntKind.i32 (sg g (x - (1 : Nat))), Value.int IntKind.i32 x1.fst] =
#[Value.int IntKind.i32 g4.fst, Value.int IntKind.i32 g4.snd] ∧
True ∧
∀ (x4 : Bool) (w'4 : World),
x4 = sylB g4.fst g4.snd ∧ Ext w'3 w'4 →
bcase x4 (∃ (c : Nat), (↑x : Int) = (↑c : Int) ∧ goB g (0 : Nat) c = true ∧ Ext w'1 w'4)
(∃ (x5 : Nat),
Value.int IntKind.i64 (↑(pos g x) : Int) = Value.int IntKind.i64 (↑x5 : Int) ∧ x5 = nextL g ∧ Ext w w'4)))))) ∧
∀ (u1 : Nat → Value) (c : Nat) (w'2 : World),
(↑x : Int) = (↑c : Int) ∧ goB g (0 : Nat) c = true ∧ Ext w'1 w'2 →
InR IntKind.i64 ((↑x : Int) + (1 : Int)) ∧
InR IntKind.i64 ((↑(pos g x) : Int) + (↑x1.snd : Int)) ∧
∃ (y : Nat),
Value.int IntKind.i32 (sg g (0 : Nat)) = Value.int IntKind.i32 (sg g (0 : Nat)) ∧
Value.int IntKind.i32 x1.fst = Value.int IntKind.i32 (sg g (y - (1 : Nat))) ∧
Value.int IntKind.i64 ((↑x : Int) + (1 : Int)) = Value.int IntKind.i64 (↑y : Int) ∧
Value.int IntKind.i64 ((↑(pos g x) : Int) + (↑x1.snd : Int)) = Value.int IntKind.i64 (↑(pos g y) : Int) ∧
((1 : Nat) ≤ y ∧
y ≤ cnt g ∧ y ≤ (32 : Nat) ∧ (0 : Nat) < g.size ∧ goN g (0 : Nat) ((33 : Nat) - y) y = firstN g (0 : Nat) ∧ Ext w w'2) ∧
(40 : Nat) - y < (40 : Nat) - x)) ∧
(∀ (u : Nat → Value) (x : Unit) (w' : World),
(0 : Nat) < g.size ∧ (isBad g (0 : Nat) = true ∨ aloneB (sg g (0 : Nat)) = true) ∧ Ext w w' →
bcase (sg g (0 : Nat) == (13 : Int))
(bcase (decide ((↑g.size : Int) > (1 : Int)))
(∃ (k : Nat),
(1 : Int) = (↑k : Int) ∧
k < g.size ∧
bcase ((↑(g.data.toList.getD k (0 : UInt8)).toNat : Int) == (10 : Int))
(∃ (x1 : Nat), Value.int IntKind.i64 (2 : Int) = Value.int IntKind.i64 (↑x1 : Int) ∧ x1 = nextL g ∧ Ext w w')
(∃ (x1 : Nat),
Value.int IntKind.i64 (↑(pos g (1 : Nat)) : Int) = Value.int IntKind.i64 (↑x1 : Int) ∧ x1 = nextL g ∧ Ext w w'))
(∃ (x1 : Nat),
Value.int IntKind.i64 (↑(pos g (1 : Nat)) : Int) = Value.int IntKind.i64 (↑x1 : Int) ∧ x1 = nextL g ∧ Ext w w'))
(∃ (x1 : Nat),
Value.int IntKind.i64 (↑(pos g (1 : Nat)) : Int) = Value.int IntKind.i64 (↑x1 : Int) ∧ x1 = nextL g ∧ Ext w w')) ∧
True) :
    ((sSN nextL)).Ok Tryd.prog 14 :=
  ok_of_vc (sSN nextL) annCNext spCNext (fun _ _ => rfl) (fun _ _ => rfl) hsp Tryd.func14 rfl (n := 1) (fun _ => rfl) (by kernel_rfl) (vcast (by kernel_rfl) h)

set_option maxRecDepth 1000000 in
theorem signs_vc (hsp : SpecsOk Tryd.prog spSigns) (h : ∀ (g : ByteArray) (w : World),
U8 w ∧ g.size ≤ (67108864 : Nat) →
(∃ (x : Nat × Option Addr × Nat),
Value.int IntKind.i64 (0 : Int) = Value.int IntKind.i64 (↑(pos g x.fst) : Int) ∧
Value.slice none (0 : Nat) (0 : Nat) = Value.slice x.snd.fst x.fst x.snd.snd ∧
x.fst ≤ cnt g ∧ Made w w (49 : TypeId) (3 : Nat) x.snd.fst x.fst (List.flatMap (sgnV g) (List.range x.fst)) x.snd.snd) ∧
∀ (u : Nat → Value) (x : Nat × Option Addr × Nat) (w' : World),
x.fst ≤ cnt g ∧ Made w w' (49 : TypeId) (3 : Nat) x.snd.fst x.fst (List.flatMap (sgnV g) (List.range x.fst)) x.snd.snd →
bcase (decide ((↑(pos g x.fst) : Int) < (↑g.size : Int)))
(∃ (k : Nat),
(↑(pos g x.fst) : Int) = (↑k : Int) ∧
k ≤ g.size ∧
g.size ≤ g.size ∧
∃ (g1 : ByteArray),
#[Value.string (g.extract k g.size)] = #[Value.string g1] ∧
(U8 w' ∧ g1.size ≤ (67108864 : Nat)) ∧
∀ (x1 : Int × Nat) (w'1 : World),
x1.fst = nxR g1 ∧ x1.snd = nxN g1 ∧ Ext w' w'1 →
bcase (x1.fst == (65533 : Int))
(∀ (b : Nat) (w1 : World),
New w'1
(Obj.cells
#[Value.int IntKind.i32 x1.fst, Value.int IntKind.i64 (↑(pos g x.fst) : Int), Value.bool ((↑x1.snd : Int) == (1 : Int))]
(49 : Nat))
b w1 →
∃ (a' : Option Addr),
∃ (c' : Nat),
∃ (w'2 : World),
AppRun Tryd.prog #[(45 : Nat), (45 : Nat)] (45 : Nat) (Value.slice x.snd.fst x.fst x.snd.snd)
(Value.slice (some { block := b, off := (0 : Nat) }) (1 : Nat) (1 : Nat)) w1 a' (x.fst + (1 : Nat)) c' w'2 ∧
KO w1 w'2 ∧
InR IntKind.i64 ((↑(pos g x.fst) : Int) + (↑x1.snd : Int)) ∧
∃ (y : Nat × Option Addr × Nat),
Value.int IntKind.i64 ((↑(pos g x.fst) : Int) + (↑x1.snd : Int)) = Value.int IntKind.i64 (↑(pos g y.fst) : Int) ∧
Value.slice a' (x.fst + (1 : Nat)) c' = Value.slice y.snd.fst y.fst y.snd.snd ∧
(y.fst ≤ cnt g ∧
Made w w'2 (49 : TypeId) (3 : Nat) y.snd.fst y.fst (List.flatMap (sgnV g) (List.range y.fst)) y.snd.snd) ∧
cnt g - y.fst < cnt g - x.fst)
(∀ (b : Nat) (w1 : World),
New w'1
(Obj.cells #[Value.int IntKind.i32 x1.fst, Value.int IntKind.i64 (↑(pos g x.fst) : Int), Value.bool false] (49 : Nat)) b
w1 →
∃ (a' : Option Addr),
∃ (c' : Nat),
∃ (w'2 : World),
AppRun Tryd.prog #[(45 : Nat), (45 : Nat)] (45 : Nat) (Value.slice x.snd.fst x.fst x.snd.snd)
(Value.slice (some { block := b, off := (0 : Nat) }) (1 : Nat) (1 : Nat)) w1 a' (x.fst + (1 : Nat)) c' w'2 ∧
KO w1 w'2 ∧
InR IntKind.i64 ((↑(pos g x.fst) : Int) + (↑x1.snd : Int)) ∧
∃ (y : Nat × Option Addr × Nat),
Value.int IntKind.i64 ((↑(pos g x.fst) : Int) + (↑x1.snd : Int)) = Value.int IntKind.i64 (↑(pos g y.fst) : Int) ∧
Value.slice a' (x.fst + (1 : Nat)) c' = Value.slice y.snd.fst y.fst y.snd.snd ∧
(y.fst ≤ cnt g ∧
Made w w'2 (49 : TypeId) (3 : Nat) y.snd.fst y.fst (List.flatMap (sgnV g) (List.range y.fst)) y.snd.snd) ∧
cnt g - y.fst < cnt g - x.fst))
(∃ (x1 : Option Addr × Nat × Nat),
Value.slice x.snd.fst x.fst x.snd.snd = Value.slice x1.fst x1.snd.fst x1.snd.snd ∧
x1.snd.fst = cnt g ∧
Made w w' (49 : TypeId) (3 : Nat) x1.fst x1.snd.fst (List.flatMap (sgnV g) (List.range (cnt g))) x1.snd.snd)) :
    (sSigns).Ok Tryd.prog 29 :=
  ok_of_vc sSigns annSigns spSigns (fun _ _ => rfl) (fun _ _ => rfl) hsp Tryd.func29 rfl (n := 1) (fun _ => rfl) (by kernel_rfl) (vcast (by kernel_rfl) h)

set_option maxRecDepth 1000000 in
theorem first_vc (hsp : SpecsOk Tryd.prog spFirst) (h : ∀ (g : GFst) (w : World),
g.k < cnt g.s ∧
g.s.size ≤ (67108864 : Nat) ∧ CellsAt w g.a (List.flatMap (sgnV g.s) (List.drop g.k (List.range (cnt g.s)))) →
∃ (k : Nat),
(0 : Int) = (↑k : Int) ∧
k < cnt g.s - g.k ∧
ptrE g.a fun (b o : Nat) =>
∃ (b1 : Bool),
w.cell? { block := b, off := o + k * (3 : Nat) + (2 : Nat) } = some (Value.bool b1) ∧
bcase b1
(∃ (x : Nat), Value.int IntKind.i64 (1 : Int) = Value.int IntKind.i64 (↑x : Int) ∧ x = firstN g.s g.k ∧ Ext w w)
((∃ (k1 : Nat),
(0 : Int) = (↑k1 : Int) ∧
k1 < cnt g.s - g.k ∧
ptrE g.a fun (b2 o1 : Nat) =>
∃ (n : Int),
w.cell? { block := b2, off := o1 + k1 * (3 : Nat) } = some (Value.int IntKind.i32 n) ∧
bcase (n == (13 : Int))
(bcase (decide ((↑(cnt g.s - g.k) : Int) > (1 : Int)))
(∃ (k2 : Nat),
(1 : Int) = (↑k2 : Int) ∧
k2 < cnt g.s - g.k ∧
ptrE g.a fun (b3 o2 : Nat) =>
∃ (n1 : Int),
w.cell? { block := b3, off := o2 + k2 * (3 : Nat) } = some (Value.int IntKind.i32 n1) ∧
∃ (c : Unit), Value.bool (n1 == (10 : Int)) = Value.bool (crB g.s g.k) ∧ Ext w w)
(∃ (c : Unit), Value.bool false = Value.bool (crB g.s g.k) ∧ Ext w w))
(∃ (c : Unit), Value.bool false = Value.bool (crB g.s g.k) ∧ Ext w w)) ∧
∀ (u : Nat → Value) (c : Unit) (w' : World),
Ext w w' →
bcase (crB g.s g.k)
(∃ (x : Nat), Value.int IntKind.i64 (2 : Int) = Value.int IntKind.i64 (↑x : Int) ∧ x = firstN g.s g.k ∧ Ext w w')
(∃ (k1 : Nat),
(0 : Int) = (↑k1 : Int) ∧
k1 < cnt g.s - g.k ∧
ptrE g.a fun (b2 o1 : Nat) =>
∃ (n : Int),
w'.cell? { block := b2, off := o1 + k1 * (3 : Nat) } = some (Value.int IntKind.i32 n) ∧
∃ (g1 : Int),
#[Value.int IntKind.i32 n] = #[Value.int IntKind.i32 g1] ∧
True ∧
∀ (x : Bool) (w'1 : World),
x = aloneB g1 ∧ Ext w' w'1 →
bcase x
(∃ (x1 : Nat), Value.int IntKind.i64 (1 : Int) = Value.int IntKind.i64 (↑x1 : Int) ∧ x1 = firstN g.s g.k ∧ Ext w w'1)
((∃ (x1 : Nat),
Value.int IntKind.i64 (1 : Int) = Value.int IntKind.i64 (↑x1 : Int) ∧
(1 : Nat) ≤ x1 ∧
g.k + x1 ≤ cnt g.s ∧ x1 ≤ (32 : Nat) ∧ goN g.s g.k ((33 : Nat) - x1) x1 = firstN g.s g.k ∧ Ext w'1 w'1) ∧
∀ (u1 : Nat → Value) (x1 : Nat) (w'2 : World),
(1 : Nat) ≤ x1 ∧
g.k + x1 ≤ cnt g.s ∧ x1 ≤ (32 : Nat) ∧ goN g.s g.k ((33 : Nat) - x1) x1 = firstN g.s g.k ∧ Ext w'1 w'2 →
∀ (w1 : World),
Drew w'2 w1 →
bcase (decide ((↑x1 : Int) < (↑(cnt g.s - g.k) : Int)))
(bcase (decide ((↑x1 : Int) < (32 : Int)))
(∃ (k2 : Nat),
(↑x1 : Int) = (↑k2 : Int) ∧
k2 < cnt g.s - g.k ∧
ptrE g.a fun (b3 o2 : Nat) =>
∃ (b4 : Bool),
w'2.cell? { block := b3, off := o2 + k2 * (3 : Nat) + (2 : Nat) } = some (Value.bool b4) ∧
bcase (!b4)
(∃ (k3 : Nat),
(0 : Int) = (↑k3 : Int) ∧
k3 < cnt g.s - g.k ∧
ptrE g.a fun (b5 o3 : Nat) =>
∃ (n1 : Int),
w'2.cell? { block := b5, off := o3 + k3 * (3 : Nat) } = some (Value.int IntKind.i32 n1) ∧
InR IntKind.i64 ((↑x1 : Int) - (1 : Int)) ∧
∃ (k4 : Nat),
(↑x1 : Int) - (1 : Int) = (↑k4 : Int) ∧
k4 < cnt g.s - g.k ∧
ptrE g.a fun (b6 o4 : Nat) =>
∃ (n2 : Int),
w'2.cell? { block := b6, off := o4 + k4 * (3 : Nat) } = some (Value.int IntKind.i32 n2) ∧
∃ (k5 : Nat),
(↑x1 : Int) = (↑k5 : Int) ∧
k5 < cnt g.s - g.k ∧
ptrE g.a fun (b7 o5 : Nat) =>
∃ (n3 : Int),
w'2.cell? { block := b7, off := o5 + k5 * (3 : Nat) } = some (Value.int IntKind.i32 n3) ∧
∃ (g2 : GTk),
#[Value.int IntKind.i32 n1, Value.int IntKind.i32 n2, Value.int IntKind.i32 n3, Value.int IntKind.i64 (↑x1 : Int)] =
#[Value.int IntKind.i32 g2.x, Value.int IntKind.i32 g2.z, Value.int IntKind.i32 g2.y,
Value.int IntKind.i64 (↑g2.n : Int)] ∧
True ∧
∀ (x2 : Bool) (w'3 : World),
x2 = takesB g2.x g2.z g2.y g2.n ∧ Ext w1 w'3 →
bcase x2
(InR IntKind.i64 ((↑x1 : Int) + (1 : Int)) ∧
∃ (y : Nat),
Value.int IntKind.i64 ((↑x1 : Int) + (1 : Int)) = Value.int IntKind.i64 (↑y : Int) ∧
((1 : Nat) ≤ y ∧ g.k + y ≤ cnt g.s ∧ y ≤ (32 : Nat) ∧ goN g.s g.k ((33 : Nat) - y) y = firstN g.s g.k ∧ Ext w'1 w'3) ∧
(40 : Nat) - y < (40 : Nat) - x1)
(∃ (x3 : Nat), Value.int IntKind.i64 (↑x1 : Int) = Value.int IntKind.i64 (↑x3 : Int) ∧ x3 = firstN g.s g.k ∧ Ext w w'3))
(∃ (x2 : Nat), Value.int IntKind.i64 (↑x1 : Int) = Value.int IntKind.i64 (↑x2 : Int) ∧ x2 = firstN g.s g.k ∧ Ext w w1))
(∃ (x2 : Nat), Value.int IntKind.i64 (↑x1 : Int) = Value.int IntKind.i64 (↑x2 : Int) ∧ x2 = firstN g.s g.k ∧ Ext w w1))
(∃ (x2 : Nat),
Value.int IntKind.i64 (↑x1 : Int) = Value.int IntKind.i64 (↑x2 : Int) ∧ x2 = firstN g.s g.k ∧ Ext w w1))))) :
    (sFirst).Ok Tryd.prog 30 :=
  ok_of_vc sFirst annFirst spFirst (fun _ _ => rfl) (fun _ _ => rfl) hsp Tryd.func30 rfl (n := 1) (fun _ => rfl) (by kernel_rfl) (vcast (by kernel_rfl) h)

set_option maxRecDepth 1000000 in
theorem rallP_vc (hsp : SpecsOk Tryd.prog spRAllP) (h : ∀ (g : ByteArray) (w : World),
U8 w ∧ g.size ≤ (67108864 : Nat) →
∃ (g1 : ByteArray),
#[Value.string g] = #[Value.string g1] ∧
(U8 w ∧ g1.size ≤ (67108864 : Nat)) ∧
∀ (x : Option Addr × Nat × Nat) (w' : World),
x.snd.fst = cnt g1 ∧
Made w w' (49 : TypeId) (3 : Nat) x.fst x.snd.fst (List.flatMap (sgnV g1) (List.range (cnt g1))) x.snd.snd →
(∃ (x1 : GAl),
Value.slice x.fst x.snd.fst x.snd.snd = Value.slice x1.la (cnt g - bk g x1.i) x1.lc ∧
Value.slice none (0 : Nat) (0 : Nat) = Value.slice x1.oa x1.i x1.oc ∧
x1.i ≤ ncl g ∧
cnt g - bk g x1.i ≤ x1.lc ∧
CellsAt w' x1.la (List.flatMap (sgnV g) (List.drop (bk g x1.i) (List.range (cnt g)))) ∧
Made w' w' (51 : TypeId) (2 : Nat) x1.oa x1.i (List.flatMap (pcV g) (List.range x1.i)) x1.oc) ∧
∀ (u : Nat → Value) (x1 : GAl) (w'1 : World),
x1.i ≤ ncl g ∧
cnt g - bk g x1.i ≤ x1.lc ∧
CellsAt w' x1.la (List.flatMap (sgnV g) (List.drop (bk g x1.i) (List.range (cnt g)))) ∧
Made w' w'1 (51 : TypeId) (2 : Nat) x1.oa x1.i (List.flatMap (pcV g) (List.range x1.i)) x1.oc →
bcase (decide ((↑(cnt g - bk g x1.i) : Int) > (0 : Int)))
(∃ (g2 : GFst),
#[Value.slice x1.la (cnt g - bk g x1.i) x1.lc] = #[Value.slice g2.a (cnt g2.s - g2.k) g2.c] ∧
(g2.k < cnt g2.s ∧
g2.s.size ≤ (67108864 : Nat) ∧ CellsAt w'1 g2.a (List.flatMap (sgnV g2.s) (List.drop g2.k (List.range (cnt g2.s))))) ∧
∀ (x2 : Nat) (w'2 : World),
x2 = firstN g2.s g2.k ∧ Ext w'1 w'2 →
bcase (decide ((↑x2 : Int) < (↑(cnt g - bk g x1.i) : Int)))
(∃ (k : Nat),
(↑x2 : Int) = (↑k : Int) ∧
k < cnt g - bk g x1.i ∧
ptrE x1.la fun (b o : Nat) =>
∃ (n : Int),
w'2.cell? { block := b, off := o + k * (3 : Nat) + (1 : Nat) } = some (Value.int IntKind.i64 n) ∧
∀ (w1 : World),
Drew w'2 w1 →
∃ (k1 : Nat),
(0 : Int) = (↑k1 : Int) ∧
k1 < cnt g - bk g x1.i ∧
ptrE x1.la fun (b1 o1 : Nat) =>
∃ (n1 : Int),
w'2.cell? { block := b1, off := o1 + k1 * (3 : Nat) + (1 : Nat) } = some (Value.int IntKind.i64 n1) ∧
∃ (k2 : Nat),
(0 : Int) = (↑k2 : Int) ∧
k2 < cnt g - bk g x1.i ∧
ptrE x1.la fun (b2 o2 : Nat) =>
∃ (n2 : Int),
w'2.cell? { block := b2, off := o2 + k2 * (3 : Nat) + (1 : Nat) } = some (Value.int IntKind.i64 n2) ∧
∃ (k3 : Nat),
n2 = (↑k3 : Int) ∧
∃ (k4 : Nat),
n = (↑k4 : Int) ∧
k3 ≤ k4 ∧
k4 ≤ g.size ∧
∀ (b3 : Nat) (w11 : World),
New w1 (Obj.cells #[Value.int IntKind.i64 n1, Value.string (g.extract k3 k4)] (51 : Nat)) b3 w11 →
Below w1.heap.size w1 w11 ∧
∃ (a' : Option Addr),
∃ (c' : Nat),
∃ (w'3 : World),
AppRun Tryd.prog #[(23 : Nat), (23 : Nat)] (23 : Nat) (Value.slice x1.oa x1.i x1.oc)
(Value.slice (some { block := b3, off := (0 : Nat) }) (1 : Nat) (1 : Nat)) w11 a' (x1.i + (1 : Nat)) c' w'3 ∧
KO w11 w'3 ∧
∃ (ln : Nat),
(↑x2 : Int) = (↑ln : Int) ∧
ln ≤ cnt g - bk g x1.i ∧
∀ (ad' : Option Addr),
SlAt x1.la ad' x1.lc ln (3 : Nat) →
∃ (y : GAl),
Value.slice ad' (cnt g - bk g x1.i - ln) (x1.lc - ln) = Value.slice y.la (cnt g - bk g y.i) y.lc ∧
Value.slice a' (x1.i + (1 : Nat)) c' = Value.slice y.oa y.i y.oc ∧
(y.i ≤ ncl g ∧
cnt g - bk g y.i ≤ y.lc ∧
CellsAt w' y.la (List.flatMap (sgnV g) (List.drop (bk g y.i) (List.range (cnt g)))) ∧
Made w' w'3 (51 : TypeId) (2 : Nat) y.oa y.i (List.flatMap (pcV g) (List.range y.i)) y.oc) ∧
ncl g - y.i < ncl g - x1.i)
(∀ (w1 : World),
Drew w'2 w1 →
∃ (k : Nat),
(0 : Int) = (↑k : Int) ∧
k < cnt g - bk g x1.i ∧
ptrE x1.la fun (b o : Nat) =>
∃ (n : Int),
w'2.cell? { block := b, off := o + k * (3 : Nat) + (1 : Nat) } = some (Value.int IntKind.i64 n) ∧
∃ (k1 : Nat),
(0 : Int) = (↑k1 : Int) ∧
k1 < cnt g - bk g x1.i ∧
ptrE x1.la fun (b1 o1 : Nat) =>
∃ (n1 : Int),
w'2.cell? { block := b1, off := o1 + k1 * (3 : Nat) + (1 : Nat) } = some (Value.int IntKind.i64 n1) ∧
∃ (k2 : Nat),
n1 = (↑k2 : Int) ∧
∃ (k3 : Nat),
(↑g.size : Int) = (↑k3 : Int) ∧
k2 ≤ k3 ∧
k3 ≤ g.size ∧
∀ (b2 : Nat) (w11 : World),
New w1 (Obj.cells #[Value.int IntKind.i64 n, Value.string (g.extract k2 k3)] (51 : Nat)) b2 w11 →
Below w1.heap.size w1 w11 ∧
∃ (a' : Option Addr),
∃ (c' : Nat),
∃ (w'3 : World),
AppRun Tryd.prog #[(23 : Nat), (23 : Nat)] (23 : Nat) (Value.slice x1.oa x1.i x1.oc)
(Value.slice (some { block := b2, off := (0 : Nat) }) (1 : Nat) (1 : Nat)) w11 a' (x1.i + (1 : Nat)) c' w'3 ∧
KO w11 w'3 ∧
∃ (ln : Nat),
(↑x2 : Int) = (↑ln : Int) ∧
ln ≤ cnt g - bk g x1.i ∧
∀ (ad' : Option Addr),
SlAt x1.la ad' x1.lc ln (3 : Nat) →
∃ (y : GAl),
Value.slice ad' (cnt g - bk g x1.i - ln) (x1.lc - ln) = Value.slice y.la (cnt g - bk g y.i) y.lc ∧
Value.slice a' (x1.i + (1 : Nat)) c' = Value.slice y.oa y.i y.oc ∧
(y.i ≤ ncl g ∧
cnt g - bk g y.i ≤ y.lc ∧
CellsAt w' y.la (List.flatMap (sgnV g) (List.drop (bk g y.i) (List.range (cnt g)))) ∧
Made w' w'3 (51 : TypeId) (2 : Nat) y.oa y.i (List.flatMap (pcV g) (List.range y.i)) y.oc) ∧
ncl g - y.i < ncl g - x1.i))
(∃ (x2 : Option Addr × Nat × Nat),
Value.slice x1.oa x1.i x1.oc = Value.slice x2.fst x2.snd.fst x2.snd.snd ∧
x2.snd.fst = ncl g ∧
Made w w'1 (51 : TypeId) (2 : Nat) x2.fst x2.snd.fst (List.flatMap (pcV g) (List.range (ncl g))) x2.snd.snd)) :
    (sRAllP).Ok Tryd.prog 10 :=
  ok_of_vc sRAllP annRAllP spRAllP (fun _ _ => rfl) (fun _ _ => rfl) hsp Tryd.func10 rfl (n := 1) (fun _ => rfl) (by kernel_rfl) (vcast (by kernel_rfl) h)

set_option maxRecDepth 1000000 in
theorem rnextC_vc (hsp : SpecsOk Tryd.prog spRNextC) (h : ∀ (g : ByteArray) (w : World),
U8 w ∧ g.size ≤ (67108864 : Nat) →
∃ (g1 : ByteArray),
#[Value.string g] = #[Value.string g1] ∧
(U8 w ∧ g1.size ≤ (67108864 : Nat)) ∧
∀ (x : Option Addr × Nat × Nat) (w' : World),
x.snd.fst = cnt g1 ∧
Made w w' (49 : TypeId) (3 : Nat) x.fst x.snd.fst (List.flatMap (sgnV g1) (List.range (cnt g1))) x.snd.snd →
bcase ((↑x.snd.fst : Int) == (0 : Int))
(∃ (x1 : Nat), Value.int IntKind.i64 (0 : Int) = Value.int IntKind.i64 (↑x1 : Int) ∧ x1 = nextL g ∧ Ext w w')
(∃ (g2 : GFst),
#[Value.slice x.fst x.snd.fst x.snd.snd] = #[Value.slice g2.a (cnt g2.s - g2.k) g2.c] ∧
(g2.k < cnt g2.s ∧
g2.s.size ≤ (67108864 : Nat) ∧ CellsAt w' g2.a (List.flatMap (sgnV g2.s) (List.drop g2.k (List.range (cnt g2.s))))) ∧
∀ (x1 : Nat) (w'1 : World),
x1 = firstN g2.s g2.k ∧ Ext w' w'1 →
bcase ((↑x1 : Int) == (↑x.snd.fst : Int))
(∃ (x2 : Nat), Value.int IntKind.i64 (↑g.size : Int) = Value.int IntKind.i64 (↑x2 : Int) ∧ x2 = nextL g ∧ Ext w w'1)
(∃ (k : Nat),
(↑x1 : Int) = (↑k : Int) ∧
k < x.snd.fst ∧
ptrE x.fst fun (b o : Nat) =>
∃ (n : Int),
w'1.cell? { block := b, off := o + k * (3 : Nat) + (1 : Nat) } = some (Value.int IntKind.i64 n) ∧
∃ (x2 : Nat), Value.int IntKind.i64 n = Value.int IntKind.i64 (↑x2 : Int) ∧ x2 = nextL g ∧ Ext w w'1))) :
    ((sSN nextL)).Ok Tryd.prog 15 :=
  ok_of_vc (sSN nextL) (annOf spRNextC) spRNextC (fun _ _ => rfl) (fun _ _ => rfl) hsp Tryd.func15 rfl (n := 1) (fun _ => rfl) (by kernel_rfl) (vcast (by kernel_rfl) h)

set_option maxRecDepth 1000000 in
theorem rlastC_vc (hsp : SpecsOk Tryd.prog spRLastC) (h : ∀ (g : ByteArray) (w : World),
U8 w ∧ g.size ≤ (67108864 : Nat) →
∃ (g1 : ByteArray),
#[Value.string g] = #[Value.string g1] ∧
(U8 w ∧ g1.size ≤ (67108864 : Nat)) ∧
∀ (x : Option Addr × Nat × Nat) (w' : World),
x.snd.fst = ncl g1 ∧
Made w w' (51 : TypeId) (2 : Nat) x.fst x.snd.fst (List.flatMap (pcV g1) (List.range (ncl g1))) x.snd.snd →
bcase ((↑x.snd.fst : Int) == (0 : Int))
(∃ (x1 : Nat), Value.int IntKind.i64 (0 : Int) = Value.int IntKind.i64 (↑x1 : Int) ∧ x1 = lastL g ∧ Ext w w')
(InR IntKind.i64 ((↑x.snd.fst : Int) - (1 : Int)) ∧
∃ (k : Nat),
(↑x.snd.fst : Int) - (1 : Int) = (↑k : Int) ∧
k < x.snd.fst ∧
ptrE x.fst fun (b o : Nat) =>
∃ (s : ByteArray),
w'.cell? { block := b, off := o + k * (2 : Nat) + (1 : Nat) } = some (Value.string s) ∧
∃ (x1 : Nat), Value.int IntKind.i64 (↑s.size : Int) = Value.int IntKind.i64 (↑x1 : Int) ∧ x1 = lastL g ∧ Ext w w')) :
    ((sSN lastL)).Ok Tryd.prog 17 :=
  ok_of_vc (sSN lastL) (annOf spRLastC) spRLastC (fun _ _ => rfl) (fun _ _ => rfl) hsp Tryd.func17 rfl (n := 1) (fun _ => rfl) (by kernel_rfl) (vcast (by kernel_rfl) h)

set_option maxRecDepth 1000000 in
theorem rbord_vc (hsp : SpecsOk Tryd.prog spRLastC) (h : ∀ (g : ByteArray) (w : World),
U8 w ∧ g.size ≤ (67108864 : Nat) →
∃ (g1 : ByteArray),
#[Value.string g] = #[Value.string g1] ∧
(U8 w ∧ g1.size ≤ (67108864 : Nat)) ∧
∀ (x : Option Addr × Nat × Nat) (w' : World),
x.snd.fst = ncl g1 ∧
Made w w' (51 : TypeId) (2 : Nat) x.fst x.snd.fst (List.flatMap (pcV g1) (List.range (ncl g1))) x.snd.snd →
(∃ (x1 : Nat × Option Addr × Nat),
Value.int IntKind.i64 (0 : Int) = Value.int IntKind.i64 (↑x1.fst : Int) ∧
Value.slice none (0 : Nat) (0 : Nat) = Value.slice x1.snd.fst x1.fst x1.snd.snd ∧
x1.fst ≤ ncl g ∧
Made w' w' (3 : TypeId) (1 : Nat) x1.snd.fst x1.fst (List.map (Value.int IntKind.i64) (List.take x1.fst (bordI g)))
x1.snd.snd) ∧
∀ (u : Nat → Value) (x1 : Nat × Option Addr × Nat) (w'1 : World),
x1.fst ≤ ncl g ∧
Made w' w'1 (3 : TypeId) (1 : Nat) x1.snd.fst x1.fst (List.map (Value.int IntKind.i64) (List.take x1.fst (bordI g)))
x1.snd.snd →
bcase (decide ((↑x1.fst : Int) < (↑x.snd.fst : Int)))
(∃ (k : Nat),
(↑x1.fst : Int) = (↑k : Int) ∧
k < x.snd.fst ∧
ptrE x.fst fun (b o : Nat) =>
∃ (n : Int),
w'1.cell? { block := b, off := o + k * (2 : Nat) } = some (Value.int IntKind.i64 n) ∧
∀ (b1 : Nat) (w1 : World),
New w'1 (Obj.cells #[Value.int IntKind.i64 n] (3 : Nat)) b1 w1 →
∃ (a' : Option Addr),
∃ (c' : Nat),
∃ (w'2 : World),
AppRun Tryd.prog #[(31 : Nat), (31 : Nat)] (31 : Nat) (Value.slice x1.snd.fst x1.fst x1.snd.snd)
(Value.slice (some { block := b1, off := (0 : Nat) }) (1 : Nat) (1 : Nat)) w1 a' (x1.fst + (1 : Nat)) c' w'2 ∧
KO w1 w'2 ∧
InR IntKind.i64 ((↑x1.fst : Int) + (1 : Int)) ∧
∃ (y : Nat × Option Addr × Nat),
Value.int IntKind.i64 ((↑x1.fst : Int) + (1 : Int)) = Value.int IntKind.i64 (↑y.fst : Int) ∧
Value.slice a' (x1.fst + (1 : Nat)) c' = Value.slice y.snd.fst y.fst y.snd.snd ∧
(y.fst ≤ ncl g ∧
Made w' w'2 (3 : TypeId) (1 : Nat) y.snd.fst y.fst (List.map (Value.int IntKind.i64) (List.take y.fst (bordI g)))
y.snd.snd) ∧
ncl g - y.fst < ncl g - x1.fst)
(∀ (b : Nat) (w1 : World),
New w'1 (Obj.cells #[Value.int IntKind.i64 (↑g.size : Int)] (3 : Nat)) b w1 →
∃ (a' : Option Addr),
∃ (c' : Nat),
∃ (w'2 : World),
AppRun Tryd.prog #[(31 : Nat), (31 : Nat)] (31 : Nat) (Value.slice x1.snd.fst x1.fst x1.snd.snd)
(Value.slice (some { block := b, off := (0 : Nat) }) (1 : Nat) (1 : Nat)) w1 a' (x1.fst + (1 : Nat)) c' w'2 ∧
KO w1 w'2 ∧
∃ (x2 : Option Addr × Nat × Nat),
Value.slice a' (x1.fst + (1 : Nat)) c' = Value.slice x2.fst x2.snd.fst x2.snd.snd ∧
x2.snd.fst = (bordI g).length ∧
Made w w'2 (3 : TypeId) (1 : Nat) x2.fst x2.snd.fst (List.map (Value.int IntKind.i64) (bordI g)) x2.snd.snd)) :
    ((sSL .i64 3 bordI)).Ok Tryd.prog 42 :=
  ok_of_vc (sSL .i64 3 bordI) annRBord spRLastC (fun _ _ => rfl) (fun _ _ => rfl) hsp Tryd.func42 rfl (n := 1) (fun _ => rfl) (by kernel_rfl) (vcast (by kernel_rfl) h)

set_option maxRecDepth 1000000 in
theorem ris_vc (hsp : SpecsOk Tryd.prog spRIs) (h : ∀ (g : ByteArray × Int) (w : World),
U8 w ∧ g.fst.size ≤ (67108864 : Nat) →
∃ (g1 : ByteArray),
#[Value.string g.fst] = #[Value.string g1] ∧
(U8 w ∧ g1.size ≤ (67108864 : Nat)) ∧
∀ (x : Option Addr × Nat × Nat) (w' : World),
x.snd.fst = (bordI g1).length ∧
Made w w' (3 : TypeId) (1 : Nat) x.fst x.snd.fst (List.map (Value.int IntKind.i64) (bordI g1)) x.snd.snd →
(∃ (x1 : Nat),
Value.int IntKind.i64 (0 : Int) = Value.int IntKind.i64 (↑x1 : Int) ∧
x1 ≤ ncl g.fst + (1 : Nat) ∧ (∀ (j : Nat), j < x1 → (↑(bp g.fst j) : Int) ≠ g.snd) ∧ Ext w' w') ∧
∀ (u : Nat → Value) (x1 : Nat) (w'1 : World),
x1 ≤ ncl g.fst + (1 : Nat) ∧ (∀ (j : Nat), j < x1 → (↑(bp g.fst j) : Int) ≠ g.snd) ∧ Ext w' w'1 →
bcase (decide ((↑x1 : Int) < (↑x.snd.fst : Int)))
(∃ (k : Nat),
(↑x1 : Int) = (↑k : Int) ∧
k < x.snd.fst ∧
ptrE x.fst fun (b o : Nat) =>
∃ (n : Int),
w'1.cell? { block := b, off := o + k } = some (Value.int IntKind.i64 n) ∧
bcase (n == g.snd) (∃ (x2 : Bool), Value.bool true = Value.bool x2 ∧ x2 = isB g.fst g.snd ∧ Ext w w'1)
(InR IntKind.i64 ((↑x1 : Int) + (1 : Int)) ∧
∃ (y : Nat),
Value.int IntKind.i64 ((↑x1 : Int) + (1 : Int)) = Value.int IntKind.i64 (↑y : Int) ∧
(y ≤ ncl g.fst + (1 : Nat) ∧ (∀ (j : Nat), j < y → (↑(bp g.fst j) : Int) ≠ g.snd) ∧ Ext w' w'1) ∧
ncl g.fst + (1 : Nat) - y < ncl g.fst + (1 : Nat) - x1))
(∃ (x2 : Bool), Value.bool false = Value.bool x2 ∧ x2 = isB g.fst g.snd ∧ Ext w w'1)) :
    (sIsB).Ok Tryd.prog 23 :=
  ok_of_vc sIsB annRIs spRIs (fun _ _ => rfl) (fun _ _ => rfl) hsp Tryd.func23 rfl (n := 2) (fun _ => rfl) (by kernel_rfl) (vcast (by kernel_rfl) h)

set_option maxRecDepth 1000000 in
theorem into_vc (hsp : SpecsOk Tryd.prog []) (h : ∀ (g : Int × Int × Int) (w : World),
True →
bcase (decide (g.fst < g.snd.fst))
(∃ (x : Int),
Value.int IntKind.i64 g.snd.fst = Value.int IntKind.i64 x ∧
(x = if g.fst < g.snd.fst then g.snd.fst else if g.fst > g.snd.snd then g.snd.snd else g.fst) ∧ w = w)
(bcase (decide (g.fst > g.snd.snd))
(∃ (x : Int),
Value.int IntKind.i64 g.snd.snd = Value.int IntKind.i64 x ∧
(x = if g.fst < g.snd.fst then g.snd.fst else if g.fst > g.snd.snd then g.snd.snd else g.fst) ∧ w = w)
(∃ (x : Int),
Value.int IntKind.i64 g.fst = Value.int IntKind.i64 x ∧
(x = if g.fst < g.snd.fst then g.snd.fst else if g.fst > g.snd.snd then g.snd.snd else g.fst) ∧ w = w))) :
    (sInto).Ok Tryd.prog 41 :=
  ok_of_vc sInto (annOf []) [] (fun _ _ => rfl) (fun _ _ => rfl) hsp Tryd.func41 rfl (n := 3) (fun _ => rfl) (by kernel_rfl) (vcast (by kernel_rfl) h)

set_option maxRecDepth 1000000 in
theorem rat_vc (hsp : SpecsOk Tryd.prog spRAt) (h : ∀ (g : ByteArray × Int) (w : World),
U8 w ∧ g.fst.size ≤ (67108864 : Nat) →
∃ (g1 : Int × Int × Int),
#[Value.int IntKind.i64 g.snd, Value.int IntKind.i64 (0 : Int), Value.int IntKind.i64 (↑g.fst.size : Int)] =
#[Value.int IntKind.i64 g1.fst, Value.int IntKind.i64 g1.snd.fst, Value.int IntKind.i64 g1.snd.snd] ∧
True ∧
∀ (x : Int) (w' : World),
(x = if g1.fst < g1.snd.fst then g1.snd.fst else if g1.fst > g1.snd.snd then g1.snd.snd else g1.fst) ∧ w' = w →
∃ (g2 : ByteArray),
#[Value.string g.fst] = #[Value.string g2] ∧
(U8 w' ∧ g2.size ≤ (67108864 : Nat)) ∧
∀ (x1 : Option Addr × Nat × Nat) (w'1 : World),
x1.snd.fst = ncl g2 ∧
Made w' w'1 (51 : TypeId) (2 : Nat) x1.fst x1.snd.fst (List.flatMap (pcV g2) (List.range (ncl g2))) x1.snd.snd →
(∃ (x2 : Nat),
Value.int IntKind.i64 (0 : Int) = Value.int IntKind.i64 (↑x2 : Int) ∧
x2 ≤ ncl g.fst ∧ (∀ (j : Nat), j < x2 → bp g.fst (j + (1 : Nat)) ≤ clampN g.fst g.snd) ∧ Ext w'1 w'1) ∧
∀ (u : Nat → Value) (x2 : Nat) (w'2 : World),
x2 ≤ ncl g.fst ∧ (∀ (j : Nat), j < x2 → bp g.fst (j + (1 : Nat)) ≤ clampN g.fst g.snd) ∧ Ext w'1 w'2 →
bcase (decide ((↑x2 : Int) < (↑x1.snd.fst : Int)))
(∀ (w1 : World),
Drew w'2 w1 →
∃ (k : Nat),
(↑x2 : Int) = (↑k : Int) ∧
k < x1.snd.fst ∧
ptrE x1.fst fun (b o : Nat) =>
∃ (n : Int),
w'2.cell? { block := b, off := o + k * (2 : Nat) } = some (Value.int IntKind.i64 n) ∧
∃ (k1 : Nat),
(↑x2 : Int) = (↑k1 : Int) ∧
k1 < x1.snd.fst ∧
ptrE x1.fst fun (b1 o1 : Nat) =>
∃ (s : ByteArray),
w'2.cell? { block := b1, off := o1 + k1 * (2 : Nat) + (1 : Nat) } = some (Value.string s) ∧
InR IntKind.i64 (n + (↑s.size : Int)) ∧
bcase (decide (x < n + (↑s.size : Int)))
(∀ (w11 : World),
Drew w1 w11 →
∃ (k2 : Nat),
(↑x2 : Int) = (↑k2 : Int) ∧
k2 < x1.snd.fst ∧
ptrE x1.fst fun (b2 o2 : Nat) =>
∃ (n1 : Int),
w1.cell? { block := b2, off := o2 + k2 * (2 : Nat) } = some (Value.int IntKind.i64 n1) ∧
∃ (k3 : Nat),
(↑x2 : Int) = (↑k3 : Int) ∧
k3 < x1.snd.fst ∧
ptrE x1.fst fun (b3 o3 : Nat) =>
∃ (n2 : Int),
w1.cell? { block := b3, off := o3 + k3 * (2 : Nat) } = some (Value.int IntKind.i64 n2) ∧
∃ (k4 : Nat),
(↑x2 : Int) = (↑k4 : Int) ∧
k4 < x1.snd.fst ∧
ptrE x1.fst fun (b4 o4 : Nat) =>
∃ (s1 : ByteArray),
w1.cell? { block := b4, off := o4 + k4 * (2 : Nat) + (1 : Nat) } = some (Value.string s1) ∧
InR IntKind.i64 (n2 + (↑s1.size : Int)) ∧
∃ (x3 : Nat × Nat),
Value.tuple #[Value.int IntKind.i64 n1, Value.int IntKind.i64 (n2 + (↑s1.size : Int))] =
Value.tuple #[Value.int IntKind.i64 (↑x3.fst : Int), Value.int IntKind.i64 (↑x3.snd : Int)] ∧
x3 = (bp g.fst (ixP g.fst (clampN g.fst g.snd)), bp g.fst (ixP g.fst (clampN g.fst g.snd) + (1 : Nat))) ∧ Ext w w11)
(InR IntKind.i64 ((↑x2 : Int) + (1 : Int)) ∧
∃ (y : Nat),
Value.int IntKind.i64 ((↑x2 : Int) + (1 : Int)) = Value.int IntKind.i64 (↑y : Int) ∧
(y ≤ ncl g.fst ∧ (∀ (j : Nat), j < y → bp g.fst (j + (1 : Nat)) ≤ clampN g.fst g.snd) ∧ Ext w'1 w1) ∧
ncl g.fst - y < ncl g.fst - x2))
(∃ (x3 : Nat × Nat),
Value.tuple #[Value.int IntKind.i64 (↑g.fst.size : Int), Value.int IntKind.i64 (↑g.fst.size : Int)] =
Value.tuple #[Value.int IntKind.i64 (↑x3.fst : Int), Value.int IntKind.i64 (↑x3.snd : Int)] ∧
x3 = (bp g.fst (ixP g.fst (clampN g.fst g.snd)), bp g.fst (ixP g.fst (clampN g.fst g.snd) + (1 : Nat))) ∧ Ext w w'2)) :
    (sAt).Ok Tryd.prog 21 :=
  ok_of_vc sAt annRAt spRAt (fun _ _ => rfl) (fun _ _ => rfl) hsp Tryd.func21 rfl (n := 2) (fun _ => rfl) (by kernel_rfl) (vcast (by kernel_rfl) h)

end Go.Proofs.YtniiamobbgnjaaaDoor
