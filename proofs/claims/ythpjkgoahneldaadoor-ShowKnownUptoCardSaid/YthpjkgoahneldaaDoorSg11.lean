/-
  Texts joined by program: VgN, VgP, WkP, WkN, Cm, Uq.
-/
import Derived.Test.YthpjkgoahneldaaDoorSg06
import Derived.Test.YthpjkgoahneldaaDoorProg
import Derived.KernelRfl
import Derived.Test.YthpjkgoahneldaaDoorSg05
import Derived.Test.YthpjkgoahneldaaDoorSg10
import Derived.Test.YthpjkgoahneldaaDoorSg09
import Derived.Test.YthpjkgoahneldaaDoorSg07
set_option linter.unusedVariables false
set_option linter.unusedSimpArgs false

section
/-
  Verification conditions, printed by a program out of the specifications beside this text: each theorem says that the condition suffices. (Lean's kernel compares the printed condition with what 'wpE' computes.)
-/
set_option linter.unusedVariables false
namespace Go.Proofs.YthpjkgoahneldaaDoor
open Go Go.RowKit Vc Ut Tb Cl

set_option maxRecDepth 1000000 in
theorem cnext_vc (hsp : SpecsOk Tryd.prog spCNext) (h : ∀ (g : ByteArray) (w : World), U8 w ∧ g.size ≤ (67108864 : Nat) → (∃ (g1 : ByteArray), #[Value.string g] = #[Value.string g1] ∧ (U8 w ∧ g1.size ≤ (67108864 : Nat)) ∧ ∀ (x : Int × Nat) (w' : World), x.fst = nxR g1 ∧ x.snd = nxN g1 ∧ Ext w w' → bcase (g.toList == (ByteArray.mk #[]).toList) (∃ (x1 : Nat), Value.int IntKind.i64 (0 : Int) = Value.int IntKind.i64 (↑x1 : Int) ∧ x1 = nextL g ∧ Ext w w') (bcase (x.fst == (65533 : Int)) (bcase ((↑x.snd : Int) == (1 : Int)) (∃ (y : Unit), Value.int IntKind.i32 x.fst = Value.int IntKind.i32 (sg g (0 : Nat)) ∧ Value.int IntKind.i64 (↑x.snd : Int) = Value.int IntKind.i64 (↑(pos g (1 : Nat)) : Int) ∧ (0 : Nat) < g.size ∧ (isBad g (0 : Nat) = true ∨ aloneB (sg g (0 : Nat)) = true) ∧ Ext w w') (∃ (g2 : Int), #[Value.int IntKind.i32 x.fst] = #[Value.int IntKind.i32 g2] ∧ True ∧ ∀ (x1 : Bool) (w'1 : World), x1 = aloneB g2 ∧ Ext w' w'1 → bcase x1 (∃ (y : Unit), Value.int IntKind.i32 x.fst = Value.int IntKind.i32 (sg g (0 : Nat)) ∧ Value.int IntKind.i64 (↑x.snd : Int) = Value.int IntKind.i64 (↑(pos g (1 : Nat)) : Int) ∧ (0 : Nat) < g.size ∧ (isBad g (0 : Nat) = true ∨ aloneB (sg g (0 : Nat)) = true) ∧ Ext w w'1) (∃ (k : Nat), (↑x.snd : Int) = (↑k : Int) ∧ k ≤ g.size ∧ g.size ≤ g.size ∧ ∃ (g3 : ByteArray), #[Value.string (g.extract k g.size)] = #[Value.string g3] ∧ (U8 w'1 ∧ g3.size ≤ (67108864 : Nat)) ∧ ∀ (x2 : Int × Nat) (w'2 : World), x2.fst = nxR g3 ∧ x2.snd = nxN g3 ∧ Ext w'1 w'2 → bcase ((↑x.snd : Int) == (↑g.size : Int) || x2.fst == (65533 : Int) && (↑x2.snd : Int) == (1 : Int)) (∃ (x3 : Nat), Value.int IntKind.i64 (↑x.snd : Int) = Value.int IntKind.i64 (↑x3 : Int) ∧ x3 = nextL g ∧ Ext w w'2) (∃ (g4 : Int), #[Value.int IntKind.i32 x2.fst] = #[Value.int IntKind.i32 g4] ∧ True ∧ ∀ (x3 : Int) (w'3 : World), x3 = kindR g4 ∧ Ext w'2 w'3 → bcase (x3 == (2 : Int)) (bcase (x3 == (2 : Int)) (∃ (c : Nat), (1 : Int) = (↑c : Int) ∧ goB g (0 : Nat) c = true ∧ Ext w'2 w'3) (∃ (g5 : Int), #[Value.int IntKind.i32 x.fst] = #[Value.int IntKind.i32 g5] ∧ True ∧ ∀ (x4 : Bool) (w'4 : World), x4 = regB g5 ∧ Ext w'3 w'4 → bcase x4 (∃ (g6 : Int), #[Value.int IntKind.i32 x2.fst] = #[Value.int IntKind.i32 g6] ∧ True ∧ ∀ (x5 : Bool) (w'5 : World), x5 = regB g6 ∧ Ext w'4 w'5 → bcase x5 (∃ (c : Nat), (1 : Int) = (↑c : Int) ∧ goB g (0 : Nat) c = true ∧ Ext w'2 w'5) (bcase (x.fst == (8205 : Int)) (∃ (g7 : Int), #[Value.int IntKind.i32 x.fst] = #[Value.int IntKind.i32 g7] ∧ True ∧ ∀ (x6 : Bool) (w'6 : World), x6 = picB g7 ∧ Ext w'5 w'6 → bcase x6 (∃ (g8 : Int), #[Value.int IntKind.i32 x2.fst] = #[Value.int IntKind.i32 g8] ∧ True ∧ ∀ (x7 : Bool) (w'7 : World), x7 = picB g8 ∧ Ext w'6 w'7 → bcase x7 (∃ (c : Nat), (1 : Int) = (↑c : Int) ∧ goB g (0 : Nat) c = true ∧ Ext w'2 w'7) (∃ (g9 : Int × Int), #[Value.int IntKind.i32 x.fst, Value.int IntKind.i32 x2.fst] = #[Value.int IntKind.i32 g9.fst, Value.int IntKind.i32 g9.snd] ∧ True ∧ ∀ (x8 : Bool) (w'8 : World),
 x8 = sylB g9.fst g9.snd ∧ Ext w'7 w'8 → bcase x8 (∃ (c : Nat), (1 : Int) = (↑c : Int) ∧ goB g (0 : Nat) c = true ∧ Ext w'2 w'8) (∃ (x9 : Nat), Value.int IntKind.i64 (↑x.snd : Int) = Value.int IntKind.i64 (↑x9 : Int) ∧ x9 = nextL g ∧ Ext w w'8))) (∃ (g8 : Int × Int), #[Value.int IntKind.i32 x.fst, Value.int IntKind.i32 x2.fst] = #[Value.int IntKind.i32 g8.fst, Value.int IntKind.i32 g8.snd] ∧ True ∧ ∀ (x7 : Bool) (w'7 : World), x7 = sylB g8.fst g8.snd ∧ Ext w'6 w'7 → bcase x7 (∃ (c : Nat), (1 : Int) = (↑c : Int) ∧ goB g (0 : Nat) c = true ∧ Ext w'2 w'7) (∃ (x8 : Nat), Value.int IntKind.i64 (↑x.snd : Int) = Value.int IntKind.i64 (↑x8 : Int) ∧ x8 = nextL g ∧ Ext w w'7))) (∃ (g7 : Int × Int), #[Value.int IntKind.i32 x.fst, Value.int IntKind.i32 x2.fst] = #[Value.int IntKind.i32 g7.fst, Value.int IntKind.i32 g7.snd] ∧ True ∧ ∀ (x6 : Bool) (w'6 : World), x6 = sylB g7.fst g7.snd ∧ Ext w'5 w'6 → bcase x6 (∃ (c : Nat), (1 : Int) = (↑c : Int) ∧ goB g (0 : Nat) c = true ∧ Ext w'2 w'6) (∃ (x7 : Nat), Value.int IntKind.i64 (↑x.snd : Int) = Value.int IntKind.i64 (↑x7 : Int) ∧ x7 = nextL g ∧ Ext w w'6)))) (bcase (x.fst == (8205 : Int)) (∃ (g6 : Int), #[Value.int IntKind.i32 x.fst] = #[Value.int IntKind.i32 g6] ∧ True ∧ ∀ (x5 : Bool) (w'5 : World), x5 = picB g6 ∧ Ext w'4 w'5 → bcase x5 (∃ (g7 : Int), #[Value.int IntKind.i32 x2.fst] = #[Value.int IntKind.i32 g7] ∧ True ∧ ∀ (x6 : Bool) (w'6 : World), x6 = picB g7 ∧ Ext w'5 w'6 → bcase x6 (∃ (c : Nat), (1 : Int) = (↑c : Int) ∧ goB g (0 : Nat) c = true ∧ Ext w'2 w'6) (∃ (g8 : Int × Int), #[Value.int IntKind.i32 x.fst, Value.int IntKind.i32 x2.fst] = #[Value.int IntKind.i32 g8.fst, Value.int IntKind.i32 g8.snd] ∧ True ∧ ∀ (x7 : Bool) (w'7 : World), x7 = sylB g8.fst g8.snd ∧ Ext w'6 w'7 → bcase x7 (∃ (c : Nat), (1 : Int) = (↑c : Int) ∧ goB g (0 : Nat) c = true ∧ Ext w'2 w'7) (∃ (x8 : Nat), Value.int IntKind.i64 (↑x.snd : Int) = Value.int IntKind.i64 (↑x8 : Int) ∧ x8 = nextL g ∧ Ext w w'7))) (∃ (g7 : Int × Int), #[Value.int IntKind.i32 x.fst, Value.int IntKind.i32 x2.fst] = #[Value.int IntKind.i32 g7.fst, Value.int IntKind.i32 g7.snd] ∧ True ∧ ∀ (x6 : Bool) (w'6 : World), x6 = sylB g7.fst g7.snd ∧ Ext w'5 w'6 → bcase x6 (∃ (c : Nat), (1 : Int) = (↑c : Int) ∧ goB g (0 : Nat) c = true ∧ Ext w'2 w'6) (∃ (x7 : Nat), Value.int IntKind.i64 (↑x.snd : Int) = Value.int IntKind.i64 (↑x7 : Int) ∧ x7 = nextL g ∧ Ext w w'6))) (∃ (g6 : Int × Int), #[Value.int IntKind.i32 x.fst, Value.int IntKind.i32 x2.fst] = #[Value.int IntKind.i32 g6.fst, Value.int IntKind.i32 g6.snd] ∧ True ∧ ∀ (x5 : Bool) (w'5 : World), x5 = sylB g6.fst g6.snd ∧ Ext w'4 w'5 → bcase x5 (∃ (c : Nat), (1 : Int) = (↑c : Int) ∧ goB g (0 : Nat) c = true ∧ Ext w'2 w'5) (∃ (x6 : Nat), Value.int IntKind.i64 (↑x.snd : Int) = Value.int IntKind.i64 (↑x6 : Int) ∧ x6 = nextL g ∧ Ext w w'5))))) (∃ (g5 : Int), #[Value.int IntKind.i32 x2.fst] = #[Value.int IntKind.i32 g5] ∧ True ∧ ∀ (x4 : Bool) (w'4 : World), x4 = joinB g5 ∧ Ext w'3 w'4 →
 bcase x4 (∃ (c : Nat), (1 : Int) = (↑c : Int) ∧ goB g (0 : Nat) c = true ∧ Ext w'2 w'4) (∃ (g6 : Int), #[Value.int IntKind.i32 x.fst] = #[Value.int IntKind.i32 g6] ∧ True ∧ ∀ (x5 : Bool) (w'5 : World), x5 = regB g6 ∧ Ext w'4 w'5 → bcase x5 (∃ (g7 : Int), #[Value.int IntKind.i32 x2.fst] = #[Value.int IntKind.i32 g7] ∧ True ∧ ∀ (x6 : Bool) (w'6 : World), x6 = regB g7 ∧ Ext w'5 w'6 → bcase x6 (∃ (c : Nat), (1 : Int) = (↑c : Int) ∧ goB g (0 : Nat) c = true ∧ Ext w'2 w'6) (bcase (x.fst == (8205 : Int)) (∃ (g8 : Int), #[Value.int IntKind.i32 x.fst] = #[Value.int IntKind.i32 g8] ∧ True ∧ ∀ (x7 : Bool) (w'7 : World), x7 = picB g8 ∧ Ext w'6 w'7 → bcase x7 (∃ (g9 : Int), #[Value.int IntKind.i32 x2.fst] = #[Value.int IntKind.i32 g9] ∧ True ∧ ∀ (x8 : Bool) (w'8 : World), x8 = picB g9 ∧ Ext w'7 w'8 → bcase x8 (∃ (c : Nat), (1 : Int) = (↑c : Int) ∧ goB g (0 : Nat) c = true ∧ Ext w'2 w'8) (∃ (g10 : Int × Int), #[Value.int IntKind.i32 x.fst, Value.int IntKind.i32 x2.fst] = #[Value.int IntKind.i32 g10.fst, Value.int IntKind.i32 g10.snd] ∧ True ∧ ∀ (x9 : Bool) (w'9 : World), x9 = sylB g10.fst g10.snd ∧ Ext w'8 w'9 → bcase x9 (∃ (c : Nat), (1 : Int) = (↑c : Int) ∧ goB g (0 : Nat) c = true ∧ Ext w'2 w'9) (∃ (x10 : Nat), Value.int IntKind.i64 (↑x.snd : Int) = Value.int IntKind.i64 (↑x10 : Int) ∧ x10 = nextL g ∧ Ext w w'9))) (∃ (g9 : Int × Int), #[Value.int IntKind.i32 x.fst, Value.int IntKind.i32 x2.fst] = #[Value.int IntKind.i32 g9.fst, Value.int IntKind.i32 g9.snd] ∧ True ∧ ∀ (x8 : Bool) (w'8 : World), x8 = sylB g9.fst g9.snd ∧ Ext w'7 w'8 → bcase x8 (∃ (c : Nat), (1 : Int) = (↑c : Int) ∧ goB g (0 : Nat) c = true ∧ Ext w'2 w'8) (∃ (x9 : Nat), Value.int IntKind.i64 (↑x.snd : Int) = Value.int IntKind.i64 (↑x9 : Int) ∧ x9 = nextL g ∧ Ext w w'8))) (∃ (g8 : Int × Int), #[Value.int IntKind.i32 x.fst, Value.int IntKind.i32 x2.fst] = #[Value.int IntKind.i32 g8.fst, Value.int IntKind.i32 g8.snd] ∧ True ∧ ∀ (x7 : Bool) (w'7 : World), x7 = sylB g8.fst g8.snd ∧ Ext w'6 w'7 → bcase x7 (∃ (c : Nat), (1 : Int) = (↑c : Int) ∧ goB g (0 : Nat) c = true ∧ Ext w'2 w'7) (∃ (x8 : Nat), Value.int IntKind.i64 (↑x.snd : Int) = Value.int IntKind.i64 (↑x8 : Int) ∧ x8 = nextL g ∧ Ext w w'7)))) (bcase (x.fst == (8205 : Int)) (∃ (g7 : Int), #[Value.int IntKind.i32 x.fst] = #[Value.int IntKind.i32 g7] ∧ True ∧ ∀ (x6 : Bool) (w'6 : World), x6 = picB g7 ∧ Ext w'5 w'6 → bcase x6 (∃ (g8 : Int), #[Value.int IntKind.i32 x2.fst] = #[Value.int IntKind.i32 g8] ∧ True ∧ ∀ (x7 : Bool) (w'7 : World), x7 = picB g8 ∧ Ext w'6 w'7 → bcase x7 (∃ (c : Nat), (1 : Int) = (↑c : Int) ∧ goB g (0 : Nat) c = true ∧ Ext w'2 w'7) (∃ (g9 : Int × Int), #[Value.int IntKind.i32 x.fst, Value.int IntKind.i32 x2.fst] = #[Value.int IntKind.i32 g9.fst, Value.int IntKind.i32 g9.snd] ∧ True ∧ ∀ (x8 : Bool) (w'8 : World), x8 = sylB g9.fst g9.snd ∧ Ext w'7 w'8 → bcase x8 (∃ (c : Nat), (1 : Int) = (↑c : Int) ∧ goB g (0 : Nat) c = true ∧ Ext w'2 w'8)
 (∃ (x9 : Nat), Value.int IntKind.i64 (↑x.snd : Int) = Value.int IntKind.i64 (↑x9 : Int) ∧ x9 = nextL g ∧ Ext w w'8))) (∃ (g8 : Int × Int), #[Value.int IntKind.i32 x.fst, Value.int IntKind.i32 x2.fst] = #[Value.int IntKind.i32 g8.fst, Value.int IntKind.i32 g8.snd] ∧ True ∧ ∀ (x7 : Bool) (w'7 : World), x7 = sylB g8.fst g8.snd ∧ Ext w'6 w'7 → bcase x7 (∃ (c : Nat), (1 : Int) = (↑c : Int) ∧ goB g (0 : Nat) c = true ∧ Ext w'2 w'7) (∃ (x8 : Nat), Value.int IntKind.i64 (↑x.snd : Int) = Value.int IntKind.i64 (↑x8 : Int) ∧ x8 = nextL g ∧ Ext w w'7))) (∃ (g7 : Int × Int), #[Value.int IntKind.i32 x.fst, Value.int IntKind.i32 x2.fst] = #[Value.int IntKind.i32 g7.fst, Value.int IntKind.i32 g7.snd] ∧ True ∧ ∀ (x6 : Bool) (w'6 : World), x6 = sylB g7.fst g7.snd ∧ Ext w'5 w'6 → bcase x6 (∃ (c : Nat), (1 : Int) = (↑c : Int) ∧ goB g (0 : Nat) c = true ∧ Ext w'2 w'6) (∃ (x7 : Nat), Value.int IntKind.i64 (↑x.snd : Int) = Value.int IntKind.i64 (↑x7 : Int) ∧ x7 = nextL g ∧ Ext w w'6)))))) ∧ ∀ (u : Nat → Value) (c : Nat) (w'3 : World), (1 : Int) = (↑c : Int) ∧ goB g (0 : Nat) c = true ∧ Ext w'2 w'3 → InR IntKind.i64 ((1 : Int) + (1 : Int)) ∧ InR IntKind.i64 ((↑x.snd : Int) + (↑x2.snd : Int)) ∧ ∃ (y : Nat), Value.int IntKind.i32 x.fst = Value.int IntKind.i32 (sg g (0 : Nat)) ∧ Value.int IntKind.i32 x2.fst = Value.int IntKind.i32 (sg g (y - (1 : Nat))) ∧ Value.int IntKind.i64 (2 : Int) = Value.int IntKind.i64 (↑y : Int) ∧ Value.int IntKind.i64 ((↑x.snd : Int) + (↑x2.snd : Int)) = Value.int IntKind.i64 (↑(pos g y) : Int) ∧ (1 : Nat) ≤ y ∧ y ≤ cnt g ∧ y ≤ (32 : Nat) ∧ (0 : Nat) < g.size ∧ goN g (0 : Nat) ((33 : Nat) - y) y = firstN g (0 : Nat) ∧ Ext w w'3))) (∃ (g2 : Int), #[Value.int IntKind.i32 x.fst] = #[Value.int IntKind.i32 g2] ∧ True ∧ ∀ (x1 : Bool) (w'1 : World), x1 = aloneB g2 ∧ Ext w' w'1 → bcase x1 (∃ (y : Unit), Value.int IntKind.i32 x.fst = Value.int IntKind.i32 (sg g (0 : Nat)) ∧ Value.int IntKind.i64 (↑x.snd : Int) = Value.int IntKind.i64 (↑(pos g (1 : Nat)) : Int) ∧ (0 : Nat) < g.size ∧ (isBad g (0 : Nat) = true ∨ aloneB (sg g (0 : Nat)) = true) ∧ Ext w w'1) (∃ (k : Nat), (↑x.snd : Int) = (↑k : Int) ∧ k ≤ g.size ∧ g.size ≤ g.size ∧ ∃ (g3 : ByteArray), #[Value.string (g.extract k g.size)] = #[Value.string g3] ∧ (U8 w'1 ∧ g3.size ≤ (67108864 : Nat)) ∧ ∀ (x2 : Int × Nat) (w'2 : World), x2.fst = nxR g3 ∧ x2.snd = nxN g3 ∧ Ext w'1 w'2 → bcase ((↑x.snd : Int) == (↑g.size : Int) || x2.fst == (65533 : Int) && (↑x2.snd : Int) == (1 : Int)) (∃ (x3 : Nat), Value.int IntKind.i64 (↑x.snd : Int) = Value.int IntKind.i64 (↑x3 : Int) ∧ x3 = nextL g ∧ Ext w w'2) (∃ (g4 : Int), #[Value.int IntKind.i32 x2.fst] = #[Value.int IntKind.i32 g4] ∧ True ∧ ∀ (x3 : Int) (w'3 : World), x3 = kindR g4 ∧ Ext w'2 w'3 → bcase (x3 == (2 : Int)) (bcase (x3 == (2 : Int)) (∃ (c : Nat), (1 : Int) = (↑c : Int) ∧ goB g (0 : Nat) c = true ∧ Ext w'2 w'3) (∃ (g5 : Int), #[Value.int IntKind.i32 x.fst] = #[Value.int IntKind.i32 g5] ∧ True ∧ ∀ (x4 : Bool) (w'4 : World), x4 = regB g5 ∧ Ext w'3 w'4 →
 bcase x4 (∃ (g6 : Int), #[Value.int IntKind.i32 x2.fst] = #[Value.int IntKind.i32 g6] ∧ True ∧ ∀ (x5 : Bool) (w'5 : World), x5 = regB g6 ∧ Ext w'4 w'5 → bcase x5 (∃ (c : Nat), (1 : Int) = (↑c : Int) ∧ goB g (0 : Nat) c = true ∧ Ext w'2 w'5) (bcase (x.fst == (8205 : Int)) (∃ (g7 : Int), #[Value.int IntKind.i32 x.fst] = #[Value.int IntKind.i32 g7] ∧ True ∧ ∀ (x6 : Bool) (w'6 : World), x6 = picB g7 ∧ Ext w'5 w'6 → bcase x6 (∃ (g8 : Int), #[Value.int IntKind.i32 x2.fst] = #[Value.int IntKind.i32 g8] ∧ True ∧ ∀ (x7 : Bool) (w'7 : World), x7 = picB g8 ∧ Ext w'6 w'7 → bcase x7 (∃ (c : Nat), (1 : Int) = (↑c : Int) ∧ goB g (0 : Nat) c = true ∧ Ext w'2 w'7) (∃ (g9 : Int × Int), #[Value.int IntKind.i32 x.fst, Value.int IntKind.i32 x2.fst] = #[Value.int IntKind.i32 g9.fst, Value.int IntKind.i32 g9.snd] ∧ True ∧ ∀ (x8 : Bool) (w'8 : World), x8 = sylB g9.fst g9.snd ∧ Ext w'7 w'8 → bcase x8 (∃ (c : Nat), (1 : Int) = (↑c : Int) ∧ goB g (0 : Nat) c = true ∧ Ext w'2 w'8) (∃ (x9 : Nat), Value.int IntKind.i64 (↑x.snd : Int) = Value.int IntKind.i64 (↑x9 : Int) ∧ x9 = nextL g ∧ Ext w w'8))) (∃ (g8 : Int × Int), #[Value.int IntKind.i32 x.fst, Value.int IntKind.i32 x2.fst] = #[Value.int IntKind.i32 g8.fst, Value.int IntKind.i32 g8.snd] ∧ True ∧ ∀ (x7 : Bool) (w'7 : World), x7 = sylB g8.fst g8.snd ∧ Ext w'6 w'7 → bcase x7 (∃ (c : Nat), (1 : Int) = (↑c : Int) ∧ goB g (0 : Nat) c = true ∧ Ext w'2 w'7) (∃ (x8 : Nat), Value.int IntKind.i64 (↑x.snd : Int) = Value.int IntKind.i64 (↑x8 : Int) ∧ x8 = nextL g ∧ Ext w w'7))) (∃ (g7 : Int × Int), #[Value.int IntKind.i32 x.fst, Value.int IntKind.i32 x2.fst] = #[Value.int IntKind.i32 g7.fst, Value.int IntKind.i32 g7.snd] ∧ True ∧ ∀ (x6 : Bool) (w'6 : World), x6 = sylB g7.fst g7.snd ∧ Ext w'5 w'6 → bcase x6 (∃ (c : Nat), (1 : Int) = (↑c : Int) ∧ goB g (0 : Nat) c = true ∧ Ext w'2 w'6) (∃ (x7 : Nat), Value.int IntKind.i64 (↑x.snd : Int) = Value.int IntKind.i64 (↑x7 : Int) ∧ x7 = nextL g ∧ Ext w w'6)))) (bcase (x.fst == (8205 : Int)) (∃ (g6 : Int), #[Value.int IntKind.i32 x.fst] = #[Value.int IntKind.i32 g6] ∧ True ∧ ∀ (x5 : Bool) (w'5 : World), x5 = picB g6 ∧ Ext w'4 w'5 → bcase x5 (∃ (g7 : Int), #[Value.int IntKind.i32 x2.fst] = #[Value.int IntKind.i32 g7] ∧ True ∧ ∀ (x6 : Bool) (w'6 : World), x6 = picB g7 ∧ Ext w'5 w'6 → bcase x6 (∃ (c : Nat), (1 : Int) = (↑c : Int) ∧ goB g (0 : Nat) c = true ∧ Ext w'2 w'6) (∃ (g8 : Int × Int), #[Value.int IntKind.i32 x.fst, Value.int IntKind.i32 x2.fst] = #[Value.int IntKind.i32 g8.fst, Value.int IntKind.i32 g8.snd] ∧ True ∧ ∀ (x7 : Bool) (w'7 : World), x7 = sylB g8.fst g8.snd ∧ Ext w'6 w'7 → bcase x7 (∃ (c : Nat), (1 : Int) = (↑c : Int) ∧ goB g (0 : Nat) c = true ∧ Ext w'2 w'7) (∃ (x8 : Nat), Value.int IntKind.i64 (↑x.snd : Int) = Value.int IntKind.i64 (↑x8 : Int) ∧ x8 = nextL g ∧ Ext w w'7))) (∃ (g7 : Int × Int), #[Value.int IntKind.i32 x.fst, Value.int IntKind.i32 x2.fst] = #[Value.int IntKind.i32 g7.fst, Value.int IntKind.i32 g7.snd] ∧ True ∧ ∀ (x6 : Bool) (w'6 : World),
 x6 = sylB g7.fst g7.snd ∧ Ext w'5 w'6 → bcase x6 (∃ (c : Nat), (1 : Int) = (↑c : Int) ∧ goB g (0 : Nat) c = true ∧ Ext w'2 w'6) (∃ (x7 : Nat), Value.int IntKind.i64 (↑x.snd : Int) = Value.int IntKind.i64 (↑x7 : Int) ∧ x7 = nextL g ∧ Ext w w'6))) (∃ (g6 : Int × Int), #[Value.int IntKind.i32 x.fst, Value.int IntKind.i32 x2.fst] = #[Value.int IntKind.i32 g6.fst, Value.int IntKind.i32 g6.snd] ∧ True ∧ ∀ (x5 : Bool) (w'5 : World), x5 = sylB g6.fst g6.snd ∧ Ext w'4 w'5 → bcase x5 (∃ (c : Nat), (1 : Int) = (↑c : Int) ∧ goB g (0 : Nat) c = true ∧ Ext w'2 w'5) (∃ (x6 : Nat), Value.int IntKind.i64 (↑x.snd : Int) = Value.int IntKind.i64 (↑x6 : Int) ∧ x6 = nextL g ∧ Ext w w'5))))) (∃ (g5 : Int), #[Value.int IntKind.i32 x2.fst] = #[Value.int IntKind.i32 g5] ∧ True ∧ ∀ (x4 : Bool) (w'4 : World), x4 = joinB g5 ∧ Ext w'3 w'4 → bcase x4 (∃ (c : Nat), (1 : Int) = (↑c : Int) ∧ goB g (0 : Nat) c = true ∧ Ext w'2 w'4) (∃ (g6 : Int), #[Value.int IntKind.i32 x.fst] = #[Value.int IntKind.i32 g6] ∧ True ∧ ∀ (x5 : Bool) (w'5 : World), x5 = regB g6 ∧ Ext w'4 w'5 → bcase x5 (∃ (g7 : Int), #[Value.int IntKind.i32 x2.fst] = #[Value.int IntKind.i32 g7] ∧ True ∧ ∀ (x6 : Bool) (w'6 : World), x6 = regB g7 ∧ Ext w'5 w'6 → bcase x6 (∃ (c : Nat), (1 : Int) = (↑c : Int) ∧ goB g (0 : Nat) c = true ∧ Ext w'2 w'6) (bcase (x.fst == (8205 : Int)) (∃ (g8 : Int), #[Value.int IntKind.i32 x.fst] = #[Value.int IntKind.i32 g8] ∧ True ∧ ∀ (x7 : Bool) (w'7 : World), x7 = picB g8 ∧ Ext w'6 w'7 → bcase x7 (∃ (g9 : Int), #[Value.int IntKind.i32 x2.fst] = #[Value.int IntKind.i32 g9] ∧ True ∧ ∀ (x8 : Bool) (w'8 : World), x8 = picB g9 ∧ Ext w'7 w'8 → bcase x8 (∃ (c : Nat), (1 : Int) = (↑c : Int) ∧ goB g (0 : Nat) c = true ∧ Ext w'2 w'8) (∃ (g10 : Int × Int), #[Value.int IntKind.i32 x.fst, Value.int IntKind.i32 x2.fst] = #[Value.int IntKind.i32 g10.fst, Value.int IntKind.i32 g10.snd] ∧ True ∧ ∀ (x9 : Bool) (w'9 : World), x9 = sylB g10.fst g10.snd ∧ Ext w'8 w'9 → bcase x9 (∃ (c : Nat), (1 : Int) = (↑c : Int) ∧ goB g (0 : Nat) c = true ∧ Ext w'2 w'9) (∃ (x10 : Nat), Value.int IntKind.i64 (↑x.snd : Int) = Value.int IntKind.i64 (↑x10 : Int) ∧ x10 = nextL g ∧ Ext w w'9))) (∃ (g9 : Int × Int), #[Value.int IntKind.i32 x.fst, Value.int IntKind.i32 x2.fst] = #[Value.int IntKind.i32 g9.fst, Value.int IntKind.i32 g9.snd] ∧ True ∧ ∀ (x8 : Bool) (w'8 : World), x8 = sylB g9.fst g9.snd ∧ Ext w'7 w'8 → bcase x8 (∃ (c : Nat), (1 : Int) = (↑c : Int) ∧ goB g (0 : Nat) c = true ∧ Ext w'2 w'8) (∃ (x9 : Nat), Value.int IntKind.i64 (↑x.snd : Int) = Value.int IntKind.i64 (↑x9 : Int) ∧ x9 = nextL g ∧ Ext w w'8))) (∃ (g8 : Int × Int), #[Value.int IntKind.i32 x.fst, Value.int IntKind.i32 x2.fst] = #[Value.int IntKind.i32 g8.fst, Value.int IntKind.i32 g8.snd] ∧ True ∧ ∀ (x7 : Bool) (w'7 : World), x7 = sylB g8.fst g8.snd ∧ Ext w'6 w'7 → bcase x7 (∃ (c : Nat), (1 : Int) = (↑c : Int) ∧ goB g (0 : Nat) c = true ∧ Ext w'2 w'7)
 (∃ (x8 : Nat), Value.int IntKind.i64 (↑x.snd : Int) = Value.int IntKind.i64 (↑x8 : Int) ∧ x8 = nextL g ∧ Ext w w'7)))) (bcase (x.fst == (8205 : Int)) (∃ (g7 : Int), #[Value.int IntKind.i32 x.fst] = #[Value.int IntKind.i32 g7] ∧ True ∧ ∀ (x6 : Bool) (w'6 : World), x6 = picB g7 ∧ Ext w'5 w'6 → bcase x6 (∃ (g8 : Int), #[Value.int IntKind.i32 x2.fst] = #[Value.int IntKind.i32 g8] ∧ True ∧ ∀ (x7 : Bool) (w'7 : World), x7 = picB g8 ∧ Ext w'6 w'7 → bcase x7 (∃ (c : Nat), (1 : Int) = (↑c : Int) ∧ goB g (0 : Nat) c = true ∧ Ext w'2 w'7) (∃ (g9 : Int × Int), #[Value.int IntKind.i32 x.fst, Value.int IntKind.i32 x2.fst] = #[Value.int IntKind.i32 g9.fst, Value.int IntKind.i32 g9.snd] ∧ True ∧ ∀ (x8 : Bool) (w'8 : World), x8 = sylB g9.fst g9.snd ∧ Ext w'7 w'8 → bcase x8 (∃ (c : Nat), (1 : Int) = (↑c : Int) ∧ goB g (0 : Nat) c = true ∧ Ext w'2 w'8) (∃ (x9 : Nat), Value.int IntKind.i64 (↑x.snd : Int) = Value.int IntKind.i64 (↑x9 : Int) ∧ x9 = nextL g ∧ Ext w w'8))) (∃ (g8 : Int × Int), #[Value.int IntKind.i32 x.fst, Value.int IntKind.i32 x2.fst] = #[Value.int IntKind.i32 g8.fst, Value.int IntKind.i32 g8.snd] ∧ True ∧ ∀ (x7 : Bool) (w'7 : World), x7 = sylB g8.fst g8.snd ∧ Ext w'6 w'7 → bcase x7 (∃ (c : Nat), (1 : Int) = (↑c : Int) ∧ goB g (0 : Nat) c = true ∧ Ext w'2 w'7) (∃ (x8 : Nat), Value.int IntKind.i64 (↑x.snd : Int) = Value.int IntKind.i64 (↑x8 : Int) ∧ x8 = nextL g ∧ Ext w w'7))) (∃ (g7 : Int × Int), #[Value.int IntKind.i32 x.fst, Value.int IntKind.i32 x2.fst] = #[Value.int IntKind.i32 g7.fst, Value.int IntKind.i32 g7.snd] ∧ True ∧ ∀ (x6 : Bool) (w'6 : World), x6 = sylB g7.fst g7.snd ∧ Ext w'5 w'6 → bcase x6 (∃ (c : Nat), (1 : Int) = (↑c : Int) ∧ goB g (0 : Nat) c = true ∧ Ext w'2 w'6) (∃ (x7 : Nat), Value.int IntKind.i64 (↑x.snd : Int) = Value.int IntKind.i64 (↑x7 : Int) ∧ x7 = nextL g ∧ Ext w w'6)))))) ∧ ∀ (u : Nat → Value) (c : Nat) (w'3 : World), (1 : Int) = (↑c : Int) ∧ goB g (0 : Nat) c = true ∧ Ext w'2 w'3 → InR IntKind.i64 ((1 : Int) + (1 : Int)) ∧ InR IntKind.i64 ((↑x.snd : Int) + (↑x2.snd : Int)) ∧ ∃ (y : Nat), Value.int IntKind.i32 x.fst = Value.int IntKind.i32 (sg g (0 : Nat)) ∧ Value.int IntKind.i32 x2.fst = Value.int IntKind.i32 (sg g (y - (1 : Nat))) ∧ Value.int IntKind.i64 (2 : Int) = Value.int IntKind.i64 (↑y : Int) ∧ Value.int IntKind.i64 ((↑x.snd : Int) + (↑x2.snd : Int)) = Value.int IntKind.i64 (↑(pos g y) : Int) ∧ (1 : Nat) ≤ y ∧ y ≤ cnt g ∧ y ≤ (32 : Nat) ∧ (0 : Nat) < g.size ∧ goN g (0 : Nat) ((33 : Nat) - y) y = firstN g (0 : Nat) ∧ Ext w w'3)))) ∧ (∀ (u : Nat → Value) (x : Nat) (w' : World), (1 : Nat) ≤ x ∧ x ≤ cnt g ∧ x ≤ (32 : Nat) ∧ (0 : Nat) < g.size ∧ goN g (0 : Nat) ((33 : Nat) - x) x = firstN g (0 : Nat) ∧ Ext w w' → bcase ((↑x : Int) == (32 : Int)) (∃ (x1 : Nat), Value.int IntKind.i64 (↑(pos g x) : Int) = Value.int IntKind.i64 (↑x1 : Int) ∧ x1 = nextL g ∧ Ext w w') (∃ (k : Nat), (↑(pos g x) : Int) = (↑k : Int) ∧ k ≤ g.size ∧ g.size ≤ g.size ∧ ∃ (g1 : ByteArray), #[Value.string (g.extract k g.size)] = #[Value.string g1] ∧
 (U8 w' ∧ g1.size ≤ (67108864 : Nat)) ∧ ∀ (x1 : Int × Nat) (w'1 : World), x1.fst = nxR g1 ∧ x1.snd = nxN g1 ∧ Ext w' w'1 → bcase ((↑(pos g x) : Int) == (↑g.size : Int) || x1.fst == (65533 : Int) && (↑x1.snd : Int) == (1 : Int)) (∃ (x2 : Nat), Value.int IntKind.i64 (↑(pos g x) : Int) = Value.int IntKind.i64 (↑x2 : Int) ∧ x2 = nextL g ∧ Ext w w'1) (∃ (g2 : Int), #[Value.int IntKind.i32 x1.fst] = #[Value.int IntKind.i32 g2] ∧ True ∧ ∀ (x2 : Int) (w'2 : World), x2 = kindR g2 ∧ Ext w'1 w'2 → bcase (x2 == (2 : Int)) (bcase (x2 == (2 : Int)) (∃ (c : Nat), (↑x : Int) = (↑c : Int) ∧ goB g (0 : Nat) c = true ∧ Ext w'1 w'2) (bcase ((↑x : Int) == (1 : Int)) (∃ (g3 : Int), #[Value.int IntKind.i32 (sg g (0 : Nat))] = #[Value.int IntKind.i32 g3] ∧ True ∧ ∀ (x3 : Bool) (w'3 : World), x3 = regB g3 ∧ Ext w'2 w'3 → bcase x3 (∃ (g4 : Int), #[Value.int IntKind.i32 x1.fst] = #[Value.int IntKind.i32 g4] ∧ True ∧ ∀ (x4 : Bool) (w'4 : World), x4 = regB g4 ∧ Ext w'3 w'4 → bcase x4 (∃ (c : Nat), (↑x : Int) = (↑c : Int) ∧ goB g (0 : Nat) c = true ∧ Ext w'1 w'4) (bcase (sg g (x - (1 : Nat)) == (8205 : Int)) (∃ (g5 : Int), #[Value.int IntKind.i32 (sg g (0 : Nat))] = #[Value.int IntKind.i32 g5] ∧ True ∧ ∀ (x5 : Bool) (w'5 : World), x5 = picB g5 ∧ Ext w'4 w'5 → bcase x5 (∃ (g6 : Int), #[Value.int IntKind.i32 x1.fst] = #[Value.int IntKind.i32 g6] ∧ True ∧ ∀ (x6 : Bool) (w'6 : World), x6 = picB g6 ∧ Ext w'5 w'6 → bcase x6 (∃ (c : Nat), (↑x : Int) = (↑c : Int) ∧ goB g (0 : Nat) c = true ∧ Ext w'1 w'6) (∃ (g7 : Int × Int), #[Value.int IntKind.i32 (sg g (x - (1 : Nat))), Value.int IntKind.i32 x1.fst] = #[Value.int IntKind.i32 g7.fst, Value.int IntKind.i32 g7.snd] ∧ True ∧ ∀ (x7 : Bool) (w'7 : World), x7 = sylB g7.fst g7.snd ∧ Ext w'6 w'7 → bcase x7 (∃ (c : Nat), (↑x : Int) = (↑c : Int) ∧ goB g (0 : Nat) c = true ∧ Ext w'1 w'7) (∃ (x8 : Nat), Value.int IntKind.i64 (↑(pos g x) : Int) = Value.int IntKind.i64 (↑x8 : Int) ∧ x8 = nextL g ∧ Ext w w'7))) (∃ (g6 : Int × Int), #[Value.int IntKind.i32 (sg g (x - (1 : Nat))), Value.int IntKind.i32 x1.fst] = #[Value.int IntKind.i32 g6.fst, Value.int IntKind.i32 g6.snd] ∧ True ∧ ∀ (x6 : Bool) (w'6 : World), x6 = sylB g6.fst g6.snd ∧ Ext w'5 w'6 → bcase x6 (∃ (c : Nat), (↑x : Int) = (↑c : Int) ∧ goB g (0 : Nat) c = true ∧ Ext w'1 w'6) (∃ (x7 : Nat), Value.int IntKind.i64 (↑(pos g x) : Int) = Value.int IntKind.i64 (↑x7 : Int) ∧ x7 = nextL g ∧ Ext w w'6))) (∃ (g5 : Int × Int), #[Value.int IntKind.i32 (sg g (x - (1 : Nat))), Value.int IntKind.i32 x1.fst] = #[Value.int IntKind.i32 g5.fst, Value.int IntKind.i32 g5.snd] ∧ True ∧ ∀ (x5 : Bool) (w'5 : World), x5 = sylB g5.fst g5.snd ∧ Ext w'4 w'5 → bcase x5 (∃ (c : Nat), (↑x : Int) = (↑c : Int) ∧ goB g (0 : Nat) c = true ∧ Ext w'1 w'5) (∃ (x6 : Nat), Value.int IntKind.i64 (↑(pos g x) : Int) = Value.int IntKind.i64 (↑x6 : Int) ∧ x6 = nextL g ∧ Ext w w'5)))) (bcase (sg g (x - (1 : Nat)) == (8205 : Int)) (∃ (g4 : Int), #[Value.int IntKind.i32 (sg g (0 : Nat))] = #[Value.int IntKind.i32 g4] ∧ True ∧
 ∀ (x4 : Bool) (w'4 : World), x4 = picB g4 ∧ Ext w'3 w'4 → bcase x4 (∃ (g5 : Int), #[Value.int IntKind.i32 x1.fst] = #[Value.int IntKind.i32 g5] ∧ True ∧ ∀ (x5 : Bool) (w'5 : World), x5 = picB g5 ∧ Ext w'4 w'5 → bcase x5 (∃ (c : Nat), (↑x : Int) = (↑c : Int) ∧ goB g (0 : Nat) c = true ∧ Ext w'1 w'5) (∃ (g6 : Int × Int), #[Value.int IntKind.i32 (sg g (x - (1 : Nat))), Value.int IntKind.i32 x1.fst] = #[Value.int IntKind.i32 g6.fst, Value.int IntKind.i32 g6.snd] ∧ True ∧ ∀ (x6 : Bool) (w'6 : World), x6 = sylB g6.fst g6.snd ∧ Ext w'5 w'6 → bcase x6 (∃ (c : Nat), (↑x : Int) = (↑c : Int) ∧ goB g (0 : Nat) c = true ∧ Ext w'1 w'6) (∃ (x7 : Nat), Value.int IntKind.i64 (↑(pos g x) : Int) = Value.int IntKind.i64 (↑x7 : Int) ∧ x7 = nextL g ∧ Ext w w'6))) (∃ (g5 : Int × Int), #[Value.int IntKind.i32 (sg g (x - (1 : Nat))), Value.int IntKind.i32 x1.fst] = #[Value.int IntKind.i32 g5.fst, Value.int IntKind.i32 g5.snd] ∧ True ∧ ∀ (x5 : Bool) (w'5 : World), x5 = sylB g5.fst g5.snd ∧ Ext w'4 w'5 → bcase x5 (∃ (c : Nat), (↑x : Int) = (↑c : Int) ∧ goB g (0 : Nat) c = true ∧ Ext w'1 w'5) (∃ (x6 : Nat), Value.int IntKind.i64 (↑(pos g x) : Int) = Value.int IntKind.i64 (↑x6 : Int) ∧ x6 = nextL g ∧ Ext w w'5))) (∃ (g4 : Int × Int), #[Value.int IntKind.i32 (sg g (x - (1 : Nat))), Value.int IntKind.i32 x1.fst] = #[Value.int IntKind.i32 g4.fst, Value.int IntKind.i32 g4.snd] ∧ True ∧ ∀ (x4 : Bool) (w'4 : World), x4 = sylB g4.fst g4.snd ∧ Ext w'3 w'4 → bcase x4 (∃ (c : Nat), (↑x : Int) = (↑c : Int) ∧ goB g (0 : Nat) c = true ∧ Ext w'1 w'4) (∃ (x5 : Nat), Value.int IntKind.i64 (↑(pos g x) : Int) = Value.int IntKind.i64 (↑x5 : Int) ∧ x5 = nextL g ∧ Ext w w'4)))) (bcase (sg g (x - (1 : Nat)) == (8205 : Int)) (∃ (g3 : Int), #[Value.int IntKind.i32 (sg g (0 : Nat))] = #[Value.int IntKind.i32 g3] ∧ True ∧ ∀ (x3 : Bool) (w'3 : World), x3 = picB g3 ∧ Ext w'2 w'3 → bcase x3 (∃ (g4 : Int), #[Value.int IntKind.i32 x1.fst] = #[Value.int IntKind.i32 g4] ∧ True ∧ ∀ (x4 : Bool) (w'4 : World), x4 = picB g4 ∧ Ext w'3 w'4 → bcase x4 (∃ (c : Nat), (↑x : Int) = (↑c : Int) ∧ goB g (0 : Nat) c = true ∧ Ext w'1 w'4) (∃ (g5 : Int × Int), #[Value.int IntKind.i32 (sg g (x - (1 : Nat))), Value.int IntKind.i32 x1.fst] = #[Value.int IntKind.i32 g5.fst, Value.int IntKind.i32 g5.snd] ∧ True ∧ ∀ (x5 : Bool) (w'5 : World), x5 = sylB g5.fst g5.snd ∧ Ext w'4 w'5 → bcase x5 (∃ (c : Nat), (↑x : Int) = (↑c : Int) ∧ goB g (0 : Nat) c = true ∧ Ext w'1 w'5) (∃ (x6 : Nat), Value.int IntKind.i64 (↑(pos g x) : Int) = Value.int IntKind.i64 (↑x6 : Int) ∧ x6 = nextL g ∧ Ext w w'5))) (∃ (g4 : Int × Int), #[Value.int IntKind.i32 (sg g (x - (1 : Nat))), Value.int IntKind.i32 x1.fst] = #[Value.int IntKind.i32 g4.fst, Value.int IntKind.i32 g4.snd] ∧ True ∧ ∀ (x4 : Bool) (w'4 : World), x4 = sylB g4.fst g4.snd ∧ Ext w'3 w'4 → bcase x4 (∃ (c : Nat), (↑x : Int) = (↑c : Int) ∧ goB g (0 : Nat) c = true ∧ Ext w'1 w'4) (∃ (x5 : Nat),
 Value.int IntKind.i64 (↑(pos g x) : Int) = Value.int IntKind.i64 (↑x5 : Int) ∧ x5 = nextL g ∧ Ext w w'4))) (∃ (g3 : Int × Int), #[Value.int IntKind.i32 (sg g (x - (1 : Nat))), Value.int IntKind.i32 x1.fst] = #[Value.int IntKind.i32 g3.fst, Value.int IntKind.i32 g3.snd] ∧ True ∧ ∀ (x3 : Bool) (w'3 : World), x3 = sylB g3.fst g3.snd ∧ Ext w'2 w'3 → bcase x3 (∃ (c : Nat), (↑x : Int) = (↑c : Int) ∧ goB g (0 : Nat) c = true ∧ Ext w'1 w'3) (∃ (x4 : Nat), Value.int IntKind.i64 (↑(pos g x) : Int) = Value.int IntKind.i64 (↑x4 : Int) ∧ x4 = nextL g ∧ Ext w w'3))))) (∃ (g3 : Int), #[Value.int IntKind.i32 x1.fst] = #[Value.int IntKind.i32 g3] ∧ True ∧ ∀ (x3 : Bool) (w'3 : World), x3 = joinB g3 ∧ Ext w'2 w'3 → bcase x3 (∃ (c : Nat), (↑x : Int) = (↑c : Int) ∧ goB g (0 : Nat) c = true ∧ Ext w'1 w'3) (bcase ((↑x : Int) == (1 : Int)) (∃ (g4 : Int), #[Value.int IntKind.i32 (sg g (0 : Nat))] = #[Value.int IntKind.i32 g4] ∧ True ∧ ∀ (x4 : Bool) (w'4 : World), x4 = regB g4 ∧ Ext w'3 w'4 → bcase x4 (∃ (g5 : Int), #[Value.int IntKind.i32 x1.fst] = #[Value.int IntKind.i32 g5] ∧ True ∧ ∀ (x5 : Bool) (w'5 : World), x5 = regB g5 ∧ Ext w'4 w'5 → bcase x5 (∃ (c : Nat), (↑x : Int) = (↑c : Int) ∧ goB g (0 : Nat) c = true ∧ Ext w'1 w'5) (bcase (sg g (x - (1 : Nat)) == (8205 : Int)) (∃ (g6 : Int), #[Value.int IntKind.i32 (sg g (0 : Nat))] = #[Value.int IntKind.i32 g6] ∧ True ∧ ∀ (x6 : Bool) (w'6 : World), x6 = picB g6 ∧ Ext w'5 w'6 → bcase x6 (∃ (g7 : Int), #[Value.int IntKind.i32 x1.fst] = #[Value.int IntKind.i32 g7] ∧ True ∧ ∀ (x7 : Bool) (w'7 : World), x7 = picB g7 ∧ Ext w'6 w'7 → bcase x7 (∃ (c : Nat), (↑x : Int) = (↑c : Int) ∧ goB g (0 : Nat) c = true ∧ Ext w'1 w'7) (∃ (g8 : Int × Int), #[Value.int IntKind.i32 (sg g (x - (1 : Nat))), Value.int IntKind.i32 x1.fst] = #[Value.int IntKind.i32 g8.fst, Value.int IntKind.i32 g8.snd] ∧ True ∧ ∀ (x8 : Bool) (w'8 : World), x8 = sylB g8.fst g8.snd ∧ Ext w'7 w'8 → bcase x8 (∃ (c : Nat), (↑x : Int) = (↑c : Int) ∧ goB g (0 : Nat) c = true ∧ Ext w'1 w'8) (∃ (x9 : Nat), Value.int IntKind.i64 (↑(pos g x) : Int) = Value.int IntKind.i64 (↑x9 : Int) ∧ x9 = nextL g ∧ Ext w w'8))) (∃ (g7 : Int × Int), #[Value.int IntKind.i32 (sg g (x - (1 : Nat))), Value.int IntKind.i32 x1.fst] = #[Value.int IntKind.i32 g7.fst, Value.int IntKind.i32 g7.snd] ∧ True ∧ ∀ (x7 : Bool) (w'7 : World), x7 = sylB g7.fst g7.snd ∧ Ext w'6 w'7 → bcase x7 (∃ (c : Nat), (↑x : Int) = (↑c : Int) ∧ goB g (0 : Nat) c = true ∧ Ext w'1 w'7) (∃ (x8 : Nat), Value.int IntKind.i64 (↑(pos g x) : Int) = Value.int IntKind.i64 (↑x8 : Int) ∧ x8 = nextL g ∧ Ext w w'7))) (∃ (g6 : Int × Int), #[Value.int IntKind.i32 (sg g (x - (1 : Nat))), Value.int IntKind.i32 x1.fst] = #[Value.int IntKind.i32 g6.fst, Value.int IntKind.i32 g6.snd] ∧ True ∧ ∀ (x6 : Bool) (w'6 : World), x6 = sylB g6.fst g6.snd ∧ Ext w'5 w'6 → bcase x6 (∃ (c : Nat), (↑x : Int) = (↑c : Int) ∧ goB g (0 : Nat) c = true ∧ Ext w'1 w'6) (∃ (x7 : Nat),
 Value.int IntKind.i64 (↑(pos g x) : Int) = Value.int IntKind.i64 (↑x7 : Int) ∧ x7 = nextL g ∧ Ext w w'6)))) (bcase (sg g (x - (1 : Nat)) == (8205 : Int)) (∃ (g5 : Int), #[Value.int IntKind.i32 (sg g (0 : Nat))] = #[Value.int IntKind.i32 g5] ∧ True ∧ ∀ (x5 : Bool) (w'5 : World), x5 = picB g5 ∧ Ext w'4 w'5 → bcase x5 (∃ (g6 : Int), #[Value.int IntKind.i32 x1.fst] = #[Value.int IntKind.i32 g6] ∧ True ∧ ∀ (x6 : Bool) (w'6 : World), x6 = picB g6 ∧ Ext w'5 w'6 → bcase x6 (∃ (c : Nat), (↑x : Int) = (↑c : Int) ∧ goB g (0 : Nat) c = true ∧ Ext w'1 w'6) (∃ (g7 : Int × Int), #[Value.int IntKind.i32 (sg g (x - (1 : Nat))), Value.int IntKind.i32 x1.fst] = #[Value.int IntKind.i32 g7.fst, Value.int IntKind.i32 g7.snd] ∧ True ∧ ∀ (x7 : Bool) (w'7 : World), x7 = sylB g7.fst g7.snd ∧ Ext w'6 w'7 → bcase x7 (∃ (c : Nat), (↑x : Int) = (↑c : Int) ∧ goB g (0 : Nat) c = true ∧ Ext w'1 w'7) (∃ (x8 : Nat), Value.int IntKind.i64 (↑(pos g x) : Int) = Value.int IntKind.i64 (↑x8 : Int) ∧ x8 = nextL g ∧ Ext w w'7))) (∃ (g6 : Int × Int), #[Value.int IntKind.i32 (sg g (x - (1 : Nat))), Value.int IntKind.i32 x1.fst] = #[Value.int IntKind.i32 g6.fst, Value.int IntKind.i32 g6.snd] ∧ True ∧ ∀ (x6 : Bool) (w'6 : World), x6 = sylB g6.fst g6.snd ∧ Ext w'5 w'6 → bcase x6 (∃ (c : Nat), (↑x : Int) = (↑c : Int) ∧ goB g (0 : Nat) c = true ∧ Ext w'1 w'6) (∃ (x7 : Nat), Value.int IntKind.i64 (↑(pos g x) : Int) = Value.int IntKind.i64 (↑x7 : Int) ∧ x7 = nextL g ∧ Ext w w'6))) (∃ (g5 : Int × Int), #[Value.int IntKind.i32 (sg g (x - (1 : Nat))), Value.int IntKind.i32 x1.fst] = #[Value.int IntKind.i32 g5.fst, Value.int IntKind.i32 g5.snd] ∧ True ∧ ∀ (x5 : Bool) (w'5 : World), x5 = sylB g5.fst g5.snd ∧ Ext w'4 w'5 → bcase x5 (∃ (c : Nat), (↑x : Int) = (↑c : Int) ∧ goB g (0 : Nat) c = true ∧ Ext w'1 w'5) (∃ (x6 : Nat), Value.int IntKind.i64 (↑(pos g x) : Int) = Value.int IntKind.i64 (↑x6 : Int) ∧ x6 = nextL g ∧ Ext w w'5)))) (bcase (sg g (x - (1 : Nat)) == (8205 : Int)) (∃ (g4 : Int), #[Value.int IntKind.i32 (sg g (0 : Nat))] = #[Value.int IntKind.i32 g4] ∧ True ∧ ∀ (x4 : Bool) (w'4 : World), x4 = picB g4 ∧ Ext w'3 w'4 → bcase x4 (∃ (g5 : Int), #[Value.int IntKind.i32 x1.fst] = #[Value.int IntKind.i32 g5] ∧ True ∧ ∀ (x5 : Bool) (w'5 : World), x5 = picB g5 ∧ Ext w'4 w'5 → bcase x5 (∃ (c : Nat), (↑x : Int) = (↑c : Int) ∧ goB g (0 : Nat) c = true ∧ Ext w'1 w'5) (∃ (g6 : Int × Int), #[Value.int IntKind.i32 (sg g (x - (1 : Nat))), Value.int IntKind.i32 x1.fst] = #[Value.int IntKind.i32 g6.fst, Value.int IntKind.i32 g6.snd] ∧ True ∧ ∀ (x6 : Bool) (w'6 : World), x6 = sylB g6.fst g6.snd ∧ Ext w'5 w'6 → bcase x6 (∃ (c : Nat), (↑x : Int) = (↑c : Int) ∧ goB g (0 : Nat) c = true ∧ Ext w'1 w'6) (∃ (x7 : Nat), Value.int IntKind.i64 (↑(pos g x) : Int) = Value.int IntKind.i64 (↑x7 : Int) ∧ x7 = nextL g ∧ Ext w w'6))) (∃ (g5 : Int × Int), #[Value.int IntKind.i32 (sg g (x - (1 : Nat))), Value.int IntKind.i32 x1.fst] = #[Value.int IntKind.i32 g5.fst, Value.int IntKind.i32 g5.snd] ∧ True ∧
 ∀ (x5 : Bool) (w'5 : World), x5 = sylB g5.fst g5.snd ∧ Ext w'4 w'5 → bcase x5 (∃ (c : Nat), (↑x : Int) = (↑c : Int) ∧ goB g (0 : Nat) c = true ∧ Ext w'1 w'5) (∃ (x6 : Nat), Value.int IntKind.i64 (↑(pos g x) : Int) = Value.int IntKind.i64 (↑x6 : Int) ∧ x6 = nextL g ∧ Ext w w'5))) (∃ (g4 : Int × Int), #[Value.int IntKind.i32 (sg g (x - (1 : Nat))), Value.int IntKind.i32 x1.fst] = #[Value.int IntKind.i32 g4.fst, Value.int IntKind.i32 g4.snd] ∧ True ∧ ∀ (x4 : Bool) (w'4 : World), x4 = sylB g4.fst g4.snd ∧ Ext w'3 w'4 → bcase x4 (∃ (c : Nat), (↑x : Int) = (↑c : Int) ∧ goB g (0 : Nat) c = true ∧ Ext w'1 w'4) (∃ (x5 : Nat), Value.int IntKind.i64 (↑(pos g x) : Int) = Value.int IntKind.i64 (↑x5 : Int) ∧ x5 = nextL g ∧ Ext w w'4)))))) ∧ ∀ (u1 : Nat → Value) (c : Nat) (w'2 : World), (↑x : Int) = (↑c : Int) ∧ goB g (0 : Nat) c = true ∧ Ext w'1 w'2 → InR IntKind.i64 ((↑x : Int) + (1 : Int)) ∧ InR IntKind.i64 ((↑(pos g x) : Int) + (↑x1.snd : Int)) ∧ ∃ (y : Nat), Value.int IntKind.i32 (sg g (0 : Nat)) = Value.int IntKind.i32 (sg g (0 : Nat)) ∧ Value.int IntKind.i32 x1.fst = Value.int IntKind.i32 (sg g (y - (1 : Nat))) ∧ Value.int IntKind.i64 ((↑x : Int) + (1 : Int)) = Value.int IntKind.i64 (↑y : Int) ∧ Value.int IntKind.i64 ((↑(pos g x) : Int) + (↑x1.snd : Int)) = Value.int IntKind.i64 (↑(pos g y) : Int) ∧ ((1 : Nat) ≤ y ∧ y ≤ cnt g ∧ y ≤ (32 : Nat) ∧ (0 : Nat) < g.size ∧ goN g (0 : Nat) ((33 : Nat) - y) y = firstN g (0 : Nat) ∧ Ext w w'2) ∧ (40 : Nat) - y < (40 : Nat) - x)) ∧ (∀ (u : Nat → Value) (x : Unit) (w' : World), (0 : Nat) < g.size ∧ (isBad g (0 : Nat) = true ∨ aloneB (sg g (0 : Nat)) = true) ∧ Ext w w' → bcase (sg g (0 : Nat) == (13 : Int)) (bcase (decide ((↑g.size : Int) > (1 : Int))) (∃ (k : Nat), (1 : Int) = (↑k : Int) ∧ k < g.size ∧ bcase ((↑(g.data.toList.getD k (0 : UInt8)).toNat : Int) == (10 : Int)) (∃ (x1 : Nat), Value.int IntKind.i64 (2 : Int) = Value.int IntKind.i64 (↑x1 : Int) ∧ x1 = nextL g ∧ Ext w w') (∃ (x1 : Nat), Value.int IntKind.i64 (↑(pos g (1 : Nat)) : Int) = Value.int IntKind.i64 (↑x1 : Int) ∧ x1 = nextL g ∧ Ext w w')) (∃ (x1 : Nat), Value.int IntKind.i64 (↑(pos g (1 : Nat)) : Int) = Value.int IntKind.i64 (↑x1 : Int) ∧ x1 = nextL g ∧ Ext w w')) (∃ (x1 : Nat), Value.int IntKind.i64 (↑(pos g (1 : Nat)) : Int) = Value.int IntKind.i64 (↑x1 : Int) ∧ x1 = nextL g ∧ Ext w w')) ∧ True) :
    ((sSN nextL)).Ok Tryd.prog 76 :=
  ok_of_vc (sSN nextL) annCNext spCNext (fun _ _ => rfl) (fun _ _ => rfl) hsp Tryd.func76 rfl (n := 1) (fun _ => rfl) (by kernel_rfl) (vcast (by kernel_rfl) h)

set_option maxRecDepth 1000000 in
theorem signs_vc (hsp : SpecsOk Tryd.prog spSigns) (h : ∀ (g : ByteArray) (w : World), U8 w ∧ g.size ≤ (67108864 : Nat) → (∃ (x : Nat × Option Addr × Nat), Value.int IntKind.i64 (0 : Int) = Value.int IntKind.i64 (↑(pos g x.fst) : Int) ∧ Value.slice none (0 : Nat) (0 : Nat) = Value.slice x.snd.fst x.fst x.snd.snd ∧ x.fst ≤ cnt g ∧ Made w w (103 : TypeId) (3 : Nat) x.snd.fst x.fst (List.flatMap (sgnV g) (List.range x.fst)) x.snd.snd) ∧ ∀ (u : Nat → Value) (x : Nat × Option Addr × Nat) (w' : World), x.fst ≤ cnt g ∧ Made w w' (103 : TypeId) (3 : Nat) x.snd.fst x.fst (List.flatMap (sgnV g) (List.range x.fst)) x.snd.snd → bcase (decide ((↑(pos g x.fst) : Int) < (↑g.size : Int))) (∃ (k : Nat), (↑(pos g x.fst) : Int) = (↑k : Int) ∧ k ≤ g.size ∧ g.size ≤ g.size ∧ ∃ (g1 : ByteArray), #[Value.string (g.extract k g.size)] = #[Value.string g1] ∧ (U8 w' ∧ g1.size ≤ (67108864 : Nat)) ∧ ∀ (x1 : Int × Nat) (w'1 : World), x1.fst = nxR g1 ∧ x1.snd = nxN g1 ∧ Ext w' w'1 → bcase (x1.fst == (65533 : Int)) (∀ (b : Nat) (w1 : World), New w'1 (Obj.cells #[Value.int IntKind.i32 x1.fst, Value.int IntKind.i64 (↑(pos g x.fst) : Int), Value.bool ((↑x1.snd : Int) == (1 : Int))] (103 : Nat)) b w1 → ∃ (a' : Option Addr), ∃ (c' : Nat), ∃ (w'2 : World), AppRun Tryd.prog #[(90 : Nat), (90 : Nat)] (90 : Nat) (Value.slice x.snd.fst x.fst x.snd.snd) (Value.slice (some { block := b, off := (0 : Nat) }) (1 : Nat) (1 : Nat)) w1 a' (x.fst + (1 : Nat)) c' w'2 ∧ KO w1 w'2 ∧ InR IntKind.i64 ((↑(pos g x.fst) : Int) + (↑x1.snd : Int)) ∧ ∃ (y : Nat × Option Addr × Nat), Value.int IntKind.i64 ((↑(pos g x.fst) : Int) + (↑x1.snd : Int)) = Value.int IntKind.i64 (↑(pos g y.fst) : Int) ∧ Value.slice a' (x.fst + (1 : Nat)) c' = Value.slice y.snd.fst y.fst y.snd.snd ∧ (y.fst ≤ cnt g ∧ Made w w'2 (103 : TypeId) (3 : Nat) y.snd.fst y.fst (List.flatMap (sgnV g) (List.range y.fst)) y.snd.snd) ∧ cnt g - y.fst < cnt g - x.fst) (∀ (b : Nat) (w1 : World), New w'1 (Obj.cells #[Value.int IntKind.i32 x1.fst, Value.int IntKind.i64 (↑(pos g x.fst) : Int), Value.bool false] (103 : Nat)) b w1 → ∃ (a' : Option Addr), ∃ (c' : Nat), ∃ (w'2 : World), AppRun Tryd.prog #[(90 : Nat), (90 : Nat)] (90 : Nat) (Value.slice x.snd.fst x.fst x.snd.snd) (Value.slice (some { block := b, off := (0 : Nat) }) (1 : Nat) (1 : Nat)) w1 a' (x.fst + (1 : Nat)) c' w'2 ∧ KO w1 w'2 ∧ InR IntKind.i64 ((↑(pos g x.fst) : Int) + (↑x1.snd : Int)) ∧ ∃ (y : Nat × Option Addr × Nat), Value.int IntKind.i64 ((↑(pos g x.fst) : Int) + (↑x1.snd : Int)) = Value.int IntKind.i64 (↑(pos g y.fst) : Int) ∧ Value.slice a' (x.fst + (1 : Nat)) c' = Value.slice y.snd.fst y.fst y.snd.snd ∧ (y.fst ≤ cnt g ∧ Made w w'2 (103 : TypeId) (3 : Nat) y.snd.fst y.fst (List.flatMap (sgnV g) (List.range y.fst)) y.snd.snd) ∧ cnt g - y.fst < cnt g - x.fst)) (∃ (x1 : Option Addr × Nat × Nat), Value.slice x.snd.fst x.fst x.snd.snd = Value.slice x1.fst x1.snd.fst x1.snd.snd ∧ x1.snd.fst = cnt g ∧
 Made w w' (103 : TypeId) (3 : Nat) x1.fst x1.snd.fst (List.flatMap (sgnV g) (List.range (cnt g))) x1.snd.snd)) :
    (sSigns).Ok Tryd.prog 80 :=
  ok_of_vc sSigns annSigns spSigns (fun _ _ => rfl) (fun _ _ => rfl) hsp Tryd.func80 rfl (n := 1) (fun _ => rfl) (by kernel_rfl) (vcast (by kernel_rfl) h)

set_option maxRecDepth 1000000 in
theorem first_vc (hsp : SpecsOk Tryd.prog spFirst) (h : ∀ (g : GFst) (w : World), g.k < cnt g.s ∧ g.s.size ≤ (67108864 : Nat) ∧ CellsAt w g.a (List.flatMap (sgnV g.s) (List.drop g.k (List.range (cnt g.s)))) → ∃ (k : Nat), (0 : Int) = (↑k : Int) ∧ k < cnt g.s - g.k ∧ ptrE g.a fun (b o : Nat) => ∃ (b1 : Bool), w.cell? { block := b, off := o + k * (3 : Nat) + (2 : Nat) } = some (Value.bool b1) ∧ bcase b1 (∃ (x : Nat), Value.int IntKind.i64 (1 : Int) = Value.int IntKind.i64 (↑x : Int) ∧ x = firstN g.s g.k ∧ Ext w w) ((∃ (k1 : Nat), (0 : Int) = (↑k1 : Int) ∧ k1 < cnt g.s - g.k ∧ ptrE g.a fun (b2 o1 : Nat) => ∃ (n : Int), w.cell? { block := b2, off := o1 + k1 * (3 : Nat) } = some (Value.int IntKind.i32 n) ∧ bcase (n == (13 : Int)) (bcase (decide ((↑(cnt g.s - g.k) : Int) > (1 : Int))) (∃ (k2 : Nat), (1 : Int) = (↑k2 : Int) ∧ k2 < cnt g.s - g.k ∧ ptrE g.a fun (b3 o2 : Nat) => ∃ (n1 : Int), w.cell? { block := b3, off := o2 + k2 * (3 : Nat) } = some (Value.int IntKind.i32 n1) ∧ ∃ (c : Unit), Value.bool (n1 == (10 : Int)) = Value.bool (crB g.s g.k) ∧ Ext w w) (∃ (c : Unit), Value.bool false = Value.bool (crB g.s g.k) ∧ Ext w w)) (∃ (c : Unit), Value.bool false = Value.bool (crB g.s g.k) ∧ Ext w w)) ∧ ∀ (u : Nat → Value) (c : Unit) (w' : World), Ext w w' → bcase (crB g.s g.k) (∃ (x : Nat), Value.int IntKind.i64 (2 : Int) = Value.int IntKind.i64 (↑x : Int) ∧ x = firstN g.s g.k ∧ Ext w w') (∃ (k1 : Nat), (0 : Int) = (↑k1 : Int) ∧ k1 < cnt g.s - g.k ∧ ptrE g.a fun (b2 o1 : Nat) => ∃ (n : Int), w'.cell? { block := b2, off := o1 + k1 * (3 : Nat) } = some (Value.int IntKind.i32 n) ∧ ∃ (g1 : Int), #[Value.int IntKind.i32 n] = #[Value.int IntKind.i32 g1] ∧ True ∧ ∀ (x : Bool) (w'1 : World), x = aloneB g1 ∧ Ext w' w'1 → bcase x (∃ (x1 : Nat), Value.int IntKind.i64 (1 : Int) = Value.int IntKind.i64 (↑x1 : Int) ∧ x1 = firstN g.s g.k ∧ Ext w w'1) ((∃ (x1 : Nat), Value.int IntKind.i64 (1 : Int) = Value.int IntKind.i64 (↑x1 : Int) ∧ (1 : Nat) ≤ x1 ∧ g.k + x1 ≤ cnt g.s ∧ x1 ≤ (32 : Nat) ∧ goN g.s g.k ((33 : Nat) - x1) x1 = firstN g.s g.k ∧ Ext w'1 w'1) ∧ ∀ (u1 : Nat → Value) (x1 : Nat) (w'2 : World), (1 : Nat) ≤ x1 ∧ g.k + x1 ≤ cnt g.s ∧ x1 ≤ (32 : Nat) ∧ goN g.s g.k ((33 : Nat) - x1) x1 = firstN g.s g.k ∧ Ext w'1 w'2 → ∀ (w1 : World), Drew w'2 w1 → bcase (decide ((↑x1 : Int) < (↑(cnt g.s - g.k) : Int))) (bcase (decide ((↑x1 : Int) < (32 : Int))) (∃ (k2 : Nat), (↑x1 : Int) = (↑k2 : Int) ∧ k2 < cnt g.s - g.k ∧ ptrE g.a fun (b3 o2 : Nat) => ∃ (b4 : Bool), w'2.cell? { block := b3, off := o2 + k2 * (3 : Nat) + (2 : Nat) } = some (Value.bool b4) ∧ bcase (!b4) (∃ (k3 : Nat), (0 : Int) = (↑k3 : Int) ∧ k3 < cnt g.s - g.k ∧ ptrE g.a fun (b5 o3 : Nat) => ∃ (n1 : Int), w'2.cell? { block := b5, off := o3 + k3 * (3 : Nat) } = some (Value.int IntKind.i32 n1) ∧ InR IntKind.i64 ((↑x1 : Int) - (1 : Int)) ∧ ∃ (k4 : Nat), (↑x1 : Int) - (1 : Int) = (↑k4 : Int) ∧ k4 < cnt g.s - g.k ∧ ptrE g.a fun (b6 o4 : Nat) => ∃ (n2 : Int),
 w'2.cell? { block := b6, off := o4 + k4 * (3 : Nat) } = some (Value.int IntKind.i32 n2) ∧ ∃ (k5 : Nat), (↑x1 : Int) = (↑k5 : Int) ∧ k5 < cnt g.s - g.k ∧ ptrE g.a fun (b7 o5 : Nat) => ∃ (n3 : Int), w'2.cell? { block := b7, off := o5 + k5 * (3 : Nat) } = some (Value.int IntKind.i32 n3) ∧ ∃ (g2 : GTk), #[Value.int IntKind.i32 n1, Value.int IntKind.i32 n2, Value.int IntKind.i32 n3, Value.int IntKind.i64 (↑x1 : Int)] = #[Value.int IntKind.i32 g2.x, Value.int IntKind.i32 g2.z, Value.int IntKind.i32 g2.y, Value.int IntKind.i64 (↑g2.n : Int)] ∧ True ∧ ∀ (x2 : Bool) (w'3 : World), x2 = takesB g2.x g2.z g2.y g2.n ∧ Ext w1 w'3 → bcase x2 (InR IntKind.i64 ((↑x1 : Int) + (1 : Int)) ∧ ∃ (y : Nat), Value.int IntKind.i64 ((↑x1 : Int) + (1 : Int)) = Value.int IntKind.i64 (↑y : Int) ∧ ((1 : Nat) ≤ y ∧ g.k + y ≤ cnt g.s ∧ y ≤ (32 : Nat) ∧ goN g.s g.k ((33 : Nat) - y) y = firstN g.s g.k ∧ Ext w'1 w'3) ∧ (40 : Nat) - y < (40 : Nat) - x1) (∃ (x3 : Nat), Value.int IntKind.i64 (↑x1 : Int) = Value.int IntKind.i64 (↑x3 : Int) ∧ x3 = firstN g.s g.k ∧ Ext w w'3)) (∃ (x2 : Nat), Value.int IntKind.i64 (↑x1 : Int) = Value.int IntKind.i64 (↑x2 : Int) ∧ x2 = firstN g.s g.k ∧ Ext w w1)) (∃ (x2 : Nat), Value.int IntKind.i64 (↑x1 : Int) = Value.int IntKind.i64 (↑x2 : Int) ∧ x2 = firstN g.s g.k ∧ Ext w w1)) (∃ (x2 : Nat), Value.int IntKind.i64 (↑x1 : Int) = Value.int IntKind.i64 (↑x2 : Int) ∧ x2 = firstN g.s g.k ∧ Ext w w1))))) :
    (sFirst).Ok Tryd.prog 85 :=
  ok_of_vc sFirst annFirst spFirst (fun _ _ => rfl) (fun _ _ => rfl) hsp Tryd.func85 rfl (n := 1) (fun _ => rfl) (by kernel_rfl) (vcast (by kernel_rfl) h)

set_option maxRecDepth 1000000 in
theorem rallP_vc (hsp : SpecsOk Tryd.prog spRAllP) (h : ∀ (g : ByteArray) (w : World), U8 w ∧ g.size ≤ (67108864 : Nat) → ∃ (g1 : ByteArray), #[Value.string g] = #[Value.string g1] ∧ (U8 w ∧ g1.size ≤ (67108864 : Nat)) ∧ ∀ (x : Option Addr × Nat × Nat) (w' : World), x.snd.fst = cnt g1 ∧ Made w w' (103 : TypeId) (3 : Nat) x.fst x.snd.fst (List.flatMap (sgnV g1) (List.range (cnt g1))) x.snd.snd → (∃ (x1 : GAl), Value.slice x.fst x.snd.fst x.snd.snd = Value.slice x1.la (cnt g - bk g x1.i) x1.lc ∧ Value.slice none (0 : Nat) (0 : Nat) = Value.slice x1.oa x1.i x1.oc ∧ x1.i ≤ ncl g ∧ cnt g - bk g x1.i ≤ x1.lc ∧ CellsAt w' x1.la (List.flatMap (sgnV g) (List.drop (bk g x1.i) (List.range (cnt g)))) ∧ Made w' w' (44 : TypeId) (2 : Nat) x1.oa x1.i (List.flatMap (pcV g) (List.range x1.i)) x1.oc) ∧ ∀ (u : Nat → Value) (x1 : GAl) (w'1 : World), x1.i ≤ ncl g ∧ cnt g - bk g x1.i ≤ x1.lc ∧ CellsAt w' x1.la (List.flatMap (sgnV g) (List.drop (bk g x1.i) (List.range (cnt g)))) ∧ Made w' w'1 (44 : TypeId) (2 : Nat) x1.oa x1.i (List.flatMap (pcV g) (List.range x1.i)) x1.oc → bcase (decide ((↑(cnt g - bk g x1.i) : Int) > (0 : Int))) (∃ (g2 : GFst), #[Value.slice x1.la (cnt g - bk g x1.i) x1.lc] = #[Value.slice g2.a (cnt g2.s - g2.k) g2.c] ∧ (g2.k < cnt g2.s ∧ g2.s.size ≤ (67108864 : Nat) ∧ CellsAt w'1 g2.a (List.flatMap (sgnV g2.s) (List.drop g2.k (List.range (cnt g2.s))))) ∧ ∀ (x2 : Nat) (w'2 : World), x2 = firstN g2.s g2.k ∧ Ext w'1 w'2 → bcase (decide ((↑x2 : Int) < (↑(cnt g - bk g x1.i) : Int))) (∃ (k : Nat), (↑x2 : Int) = (↑k : Int) ∧ k < cnt g - bk g x1.i ∧ ptrE x1.la fun (b o : Nat) => ∃ (n : Int), w'2.cell? { block := b, off := o + k * (3 : Nat) + (1 : Nat) } = some (Value.int IntKind.i64 n) ∧ ∀ (w1 : World), Drew w'2 w1 → ∃ (k1 : Nat), (0 : Int) = (↑k1 : Int) ∧ k1 < cnt g - bk g x1.i ∧ ptrE x1.la fun (b1 o1 : Nat) => ∃ (n1 : Int), w'2.cell? { block := b1, off := o1 + k1 * (3 : Nat) + (1 : Nat) } = some (Value.int IntKind.i64 n1) ∧ ∃ (k2 : Nat), (0 : Int) = (↑k2 : Int) ∧ k2 < cnt g - bk g x1.i ∧ ptrE x1.la fun (b2 o2 : Nat) => ∃ (n2 : Int), w'2.cell? { block := b2, off := o2 + k2 * (3 : Nat) + (1 : Nat) } = some (Value.int IntKind.i64 n2) ∧ ∃ (k3 : Nat), n2 = (↑k3 : Int) ∧ ∃ (k4 : Nat), n = (↑k4 : Int) ∧ k3 ≤ k4 ∧ k4 ≤ g.size ∧ ∀ (b3 : Nat) (w11 : World), New w1 (Obj.cells #[Value.int IntKind.i64 n1, Value.string (g.extract k3 k4)] (44 : Nat)) b3 w11 → Below w1.heap.size w1 w11 ∧ ∃ (a' : Option Addr), ∃ (c' : Nat), ∃ (w'3 : World), AppRun Tryd.prog #[(42 : Nat), (42 : Nat)] (42 : Nat) (Value.slice x1.oa x1.i x1.oc) (Value.slice (some { block := b3, off := (0 : Nat) }) (1 : Nat) (1 : Nat)) w11 a' (x1.i + (1 : Nat)) c' w'3 ∧ KO w11 w'3 ∧ ∃ (ln : Nat), (↑x2 : Int) = (↑ln : Int) ∧ ln ≤ cnt g - bk g x1.i ∧ ∀ (ad' : Option Addr), SlAt x1.la ad' x1.lc ln (3 : Nat) → ∃ (y : GAl), Value.slice ad' (cnt g - bk g x1.i - ln) (x1.lc - ln) = Value.slice y.la (cnt g - bk g y.i) y.lc ∧ Value.slice a' (x1.i + (1 : Nat)) c' = Value.slice y.oa y.i y.oc ∧ (y.i ≤ ncl g ∧
 cnt g - bk g y.i ≤ y.lc ∧ CellsAt w' y.la (List.flatMap (sgnV g) (List.drop (bk g y.i) (List.range (cnt g)))) ∧ Made w' w'3 (44 : TypeId) (2 : Nat) y.oa y.i (List.flatMap (pcV g) (List.range y.i)) y.oc) ∧ ncl g - y.i < ncl g - x1.i) (∀ (w1 : World), Drew w'2 w1 → ∃ (k : Nat), (0 : Int) = (↑k : Int) ∧ k < cnt g - bk g x1.i ∧ ptrE x1.la fun (b o : Nat) => ∃ (n : Int), w'2.cell? { block := b, off := o + k * (3 : Nat) + (1 : Nat) } = some (Value.int IntKind.i64 n) ∧ ∃ (k1 : Nat), (0 : Int) = (↑k1 : Int) ∧ k1 < cnt g - bk g x1.i ∧ ptrE x1.la fun (b1 o1 : Nat) => ∃ (n1 : Int), w'2.cell? { block := b1, off := o1 + k1 * (3 : Nat) + (1 : Nat) } = some (Value.int IntKind.i64 n1) ∧ ∃ (k2 : Nat), n1 = (↑k2 : Int) ∧ ∃ (k3 : Nat), (↑g.size : Int) = (↑k3 : Int) ∧ k2 ≤ k3 ∧ k3 ≤ g.size ∧ ∀ (b2 : Nat) (w11 : World), New w1 (Obj.cells #[Value.int IntKind.i64 n, Value.string (g.extract k2 k3)] (44 : Nat)) b2 w11 → Below w1.heap.size w1 w11 ∧ ∃ (a' : Option Addr), ∃ (c' : Nat), ∃ (w'3 : World), AppRun Tryd.prog #[(42 : Nat), (42 : Nat)] (42 : Nat) (Value.slice x1.oa x1.i x1.oc) (Value.slice (some { block := b2, off := (0 : Nat) }) (1 : Nat) (1 : Nat)) w11 a' (x1.i + (1 : Nat)) c' w'3 ∧ KO w11 w'3 ∧ ∃ (ln : Nat), (↑x2 : Int) = (↑ln : Int) ∧ ln ≤ cnt g - bk g x1.i ∧ ∀ (ad' : Option Addr), SlAt x1.la ad' x1.lc ln (3 : Nat) → ∃ (y : GAl), Value.slice ad' (cnt g - bk g x1.i - ln) (x1.lc - ln) = Value.slice y.la (cnt g - bk g y.i) y.lc ∧ Value.slice a' (x1.i + (1 : Nat)) c' = Value.slice y.oa y.i y.oc ∧ (y.i ≤ ncl g ∧ cnt g - bk g y.i ≤ y.lc ∧ CellsAt w' y.la (List.flatMap (sgnV g) (List.drop (bk g y.i) (List.range (cnt g)))) ∧ Made w' w'3 (44 : TypeId) (2 : Nat) y.oa y.i (List.flatMap (pcV g) (List.range y.i)) y.oc) ∧ ncl g - y.i < ncl g - x1.i)) (∃ (x2 : Option Addr × Nat × Nat), Value.slice x1.oa x1.i x1.oc = Value.slice x2.fst x2.snd.fst x2.snd.snd ∧ x2.snd.fst = ncl g ∧ Made w w'1 (44 : TypeId) (2 : Nat) x2.fst x2.snd.fst (List.flatMap (pcV g) (List.range (ncl g))) x2.snd.snd)) :
    (sRAllP).Ok Tryd.prog 56 :=
  ok_of_vc sRAllP annRAllP spRAllP (fun _ _ => rfl) (fun _ _ => rfl) hsp Tryd.func56 rfl (n := 1) (fun _ => rfl) (by kernel_rfl) (vcast (by kernel_rfl) h)

set_option maxRecDepth 1000000 in
theorem rnextC_vc (hsp : SpecsOk Tryd.prog spRNextC) (h : ∀ (g : ByteArray) (w : World), U8 w ∧ g.size ≤ (67108864 : Nat) → ∃ (g1 : ByteArray), #[Value.string g] = #[Value.string g1] ∧ (U8 w ∧ g1.size ≤ (67108864 : Nat)) ∧ ∀ (x : Option Addr × Nat × Nat) (w' : World), x.snd.fst = cnt g1 ∧ Made w w' (103 : TypeId) (3 : Nat) x.fst x.snd.fst (List.flatMap (sgnV g1) (List.range (cnt g1))) x.snd.snd → bcase ((↑x.snd.fst : Int) == (0 : Int)) (∃ (x1 : Nat), Value.int IntKind.i64 (0 : Int) = Value.int IntKind.i64 (↑x1 : Int) ∧ x1 = nextL g ∧ Ext w w') (∃ (g2 : GFst), #[Value.slice x.fst x.snd.fst x.snd.snd] = #[Value.slice g2.a (cnt g2.s - g2.k) g2.c] ∧ (g2.k < cnt g2.s ∧ g2.s.size ≤ (67108864 : Nat) ∧ CellsAt w' g2.a (List.flatMap (sgnV g2.s) (List.drop g2.k (List.range (cnt g2.s))))) ∧ ∀ (x1 : Nat) (w'1 : World), x1 = firstN g2.s g2.k ∧ Ext w' w'1 → bcase ((↑x1 : Int) == (↑x.snd.fst : Int)) (∃ (x2 : Nat), Value.int IntKind.i64 (↑g.size : Int) = Value.int IntKind.i64 (↑x2 : Int) ∧ x2 = nextL g ∧ Ext w w'1) (∃ (k : Nat), (↑x1 : Int) = (↑k : Int) ∧ k < x.snd.fst ∧ ptrE x.fst fun (b o : Nat) => ∃ (n : Int), w'1.cell? { block := b, off := o + k * (3 : Nat) + (1 : Nat) } = some (Value.int IntKind.i64 n) ∧ ∃ (x2 : Nat), Value.int IntKind.i64 n = Value.int IntKind.i64 (↑x2 : Int) ∧ x2 = nextL g ∧ Ext w w'1))) :
    ((sSN nextL)).Ok Tryd.prog 78 :=
  ok_of_vc (sSN nextL) (annOf spRNextC) spRNextC (fun _ _ => rfl) (fun _ _ => rfl) hsp Tryd.func78 rfl (n := 1) (fun _ => rfl) (by kernel_rfl) (vcast (by kernel_rfl) h)

set_option maxRecDepth 1000000 in
theorem into_vc (hsp : SpecsOk Tryd.prog []) (h : ∀ (g : Int × Int × Int) (w : World), True → bcase (decide (g.fst < g.snd.fst)) (∃ (x : Int), Value.int IntKind.i64 g.snd.fst = Value.int IntKind.i64 x ∧ (x = if g.fst < g.snd.fst then g.snd.fst else if g.fst > g.snd.snd then g.snd.snd else g.fst) ∧ w = w) (bcase (decide (g.fst > g.snd.snd)) (∃ (x : Int), Value.int IntKind.i64 g.snd.snd = Value.int IntKind.i64 x ∧ (x = if g.fst < g.snd.fst then g.snd.fst else if g.fst > g.snd.snd then g.snd.snd else g.fst) ∧ w = w) (∃ (x : Int), Value.int IntKind.i64 g.fst = Value.int IntKind.i64 x ∧ (x = if g.fst < g.snd.fst then g.snd.fst else if g.fst > g.snd.snd then g.snd.snd else g.fst) ∧ w = w))) :
    (sInto).Ok Tryd.prog 70 :=
  ok_of_vc sInto (annOf []) [] (fun _ _ => rfl) (fun _ _ => rfl) hsp Tryd.func70 rfl (n := 3) (fun _ => rfl) (by kernel_rfl) (vcast (by kernel_rfl) h)

end Go.Proofs.YthpjkgoahneldaaDoor
end

section
/-
  Verification conditions, printed by a program out of the specifications beside this text: each theorem says that the condition suffices. (Lean's kernel compares the printed condition with what 'wpE' computes.)
-/
set_option linter.unusedVariables false
namespace Go.Proofs.YthpjkgoahneldaaDoor
open Go Go.RowKit Vc Tb Cl

set_option maxRecDepth 1000000 in
theorem regional_vc (hsp : SpecsOk Tryd.prog []) (h : ∀ (g : Int) (w : World), True → ∃ (x : Bool), Value.bool (decide ((127462 : Int) ≤ g) && decide (g ≤ (127487 : Int))) = Value.bool x ∧ x = regB g ∧ Ext w w) :
    ((sRB regB)).Ok Tryd.prog 109 :=
  ok_of_vc (sRB regB) (annOf []) [] (fun _ _ => rfl) (fun _ _ => rfl) hsp Tryd.func109 rfl (n := 1) (fun _ => rfl) (by kernel_rfl) (vcast (by kernel_rfl) h)

set_option maxRecDepth 1000000 in
theorem joiner_vc (hsp : SpecsOk Tryd.prog []) (h : ∀ (g : Int) (w : World), True → ∃ (x : Bool), Value.bool (g == (8204 : Int) || g == (8205 : Int)) = Value.bool x ∧ x = joinB g ∧ Ext w w) :
    ((sRB joinB)).Ok Tryd.prog 108 :=
  ok_of_vc (sRB joinB) (annOf []) [] (fun _ _ => rfl) (fun _ _ => rfl) hsp Tryd.func108 rfl (n := 1) (fun _ => rfl) (by kernel_rfl) (vcast (by kernel_rfl) h)

set_option maxRecDepth 1000000 in
theorem picture_vc (hsp : SpecsOk Tryd.prog spPic) (h : ∀ (g : Int) (w : World), True → ∃ (g1 : Int), #[Value.int IntKind.i32 g] = #[Value.int IntKind.i32 g1] ∧ True ∧ ∀ (x : Int) (w' : World), x = kindR g1 ∧ Ext w w' → bcase (x == (7 : Int)) (∃ (g2 : Int × Bool), #[Value.int IntKind.i32 g, Value.bool false] = #[Value.int IntKind.i32 g2.fst, Value.bool g2.snd] ∧ True ∧ ∀ (x1 : Int) (w'1 : World), x1 = wideR g2.fst g2.snd ∧ Ext w' w'1 → ∃ (x2 : Bool), Value.bool (x1 == (2 : Int)) = Value.bool x2 ∧ x2 = picB g ∧ Ext w w'1) (∃ (x1 : Bool), Value.bool false = Value.bool x1 ∧ x1 = picB g ∧ Ext w w')) :
    ((sRB picB)).Ok Tryd.prog 110 :=
  ok_of_vc (sRB picB) (annOf spPic) spPic (fun _ _ => rfl) (fun _ _ => rfl) hsp Tryd.func110 rfl (n := 1) (fun _ => rfl) (by kernel_rfl) (vcast (by kernel_rfl) h)

set_option maxRecDepth 1000000 in
theorem alone_vc (hsp : SpecsOk Tryd.prog spAlone) (h : ∀ (g : Int) (w : World), True → ∃ (g1 : Int), #[Value.int IntKind.i32 g] = #[Value.int IntKind.i32 g1] ∧ True ∧ ∀ (x : Int) (w' : World), x = kindR g1 ∧ Ext w w' → bcase (x == (0 : Int)) (∃ (x1 : Bool), Value.bool true = Value.bool x1 ∧ x1 = aloneB g ∧ Ext w w') (bcase (x == (1 : Int)) (∃ (g2 : Int), #[Value.int IntKind.i32 g] = #[Value.int IntKind.i32 g2] ∧ True ∧ ∀ (x1 : Bool) (w'1 : World), x1 = joinB g2 ∧ Ext w' w'1 → ∃ (x2 : Bool), (Value.bool !x1) = Value.bool x2 ∧ x2 = aloneB g ∧ Ext w w'1) (∃ (x1 : Bool), Value.bool (g == (8232 : Int) || g == (8233 : Int)) = Value.bool x1 ∧ x1 = aloneB g ∧ Ext w w'))) :
    ((sRB aloneB)).Ok Tryd.prog 107 :=
  ok_of_vc (sRB aloneB) (annOf spAlone) spAlone (fun _ _ => rfl) (fun _ _ => rfl) hsp Tryd.func107 rfl (n := 1) (fun _ => rfl) (by kernel_rfl) (vcast (by kernel_rfl) h)

set_option maxRecDepth 1000000 in
theorem part_vc (hsp : SpecsOk Tryd.prog []) (h : ∀ (g : Int) (w : World), True → bcase (decide (g < (4352 : Int)) || decide (g > (55203 : Int))) (∃ (x : Nat), Value.int IntKind.i64 (0 : Int) = Value.int IntKind.i64 (↑x : Int) ∧ x = partP g ∧ Ext w w) (bcase (decide (g ≤ (4447 : Int))) (∃ (x : Nat), Value.int IntKind.i64 (1 : Int) = Value.int IntKind.i64 (↑x : Int) ∧ x = partP g ∧ Ext w w) (bcase (decide (g ≤ (4519 : Int))) (∃ (x : Nat), Value.int IntKind.i64 (2 : Int) = Value.int IntKind.i64 (↑x : Int) ∧ x = partP g ∧ Ext w w) (bcase (decide (g ≤ (4607 : Int))) (∃ (x : Nat), Value.int IntKind.i64 (4 : Int) = Value.int IntKind.i64 (↑x : Int) ∧ x = partP g ∧ Ext w w) (bcase (decide (g < (44032 : Int))) (∃ (x : Nat), Value.int IntKind.i64 (0 : Int) = Value.int IntKind.i64 (↑x : Int) ∧ x = partP g ∧ Ext w w) (InR IntKind.i32 (g - (44032 : Int)) ∧ (0 : Int) ≤ g - (44032 : Int) ∧ (0 : Int) < (28 : Int) ∧ bcase ((g - (44032 : Int)) % (28 : Int) == (0 : Int)) (∃ (x : Nat), Value.int IntKind.i64 (8 : Int) = Value.int IntKind.i64 (↑x : Int) ∧ x = partP g ∧ Ext w w) (∃ (x : Nat), Value.int IntKind.i64 (16 : Int) = Value.int IntKind.i64 (↑x : Int) ∧ x = partP g ∧ Ext w w))))))) :
    ((sRN partP)).Ok Tryd.prog 131 :=
  ok_of_vc (sRN partP) (annOf []) [] (fun _ _ => rfl) (fun _ _ => rfl) hsp Tryd.func131 rfl (n := 1) (fun _ => rfl) (by kernel_rfl) (vcast (by kernel_rfl) h)

set_option maxRecDepth 1000000 in
theorem goesP_vc (hsp : SpecsOk Tryd.prog spGoes) (h : ∀ (g : Int × Int) (w : World), True → ∃ (g1 : Int), #[Value.int IntKind.i32 g.fst] = #[Value.int IntKind.i32 g1] ∧ True ∧ ∀ (x : Nat) (w' : World), x = partP g1 ∧ Ext w w' → bcase ((↑x : Int) == (1 : Int)) (∃ (g2 : Int), #[Value.int IntKind.i32 g.snd] = #[Value.int IntKind.i32 g2] ∧ True ∧ ∀ (x1 : Nat) (w'1 : World), x1 = partP g2 ∧ Ext w' w'1 → ∃ (x2 : Bool), Value.bool (IntKind.i64.wrap (↑(BitVec.ofInt IntKind.i64.bits (27 : Int) &&& BitVec.ofInt IntKind.i64.bits (↑x1 : Int)).toNat : Int) != (0 : Int)) = Value.bool x2 ∧ x2 = sylB g.fst g.snd ∧ Ext w w'1) (bcase ((↑x : Int) == (2 : Int) || (↑x : Int) == (8 : Int)) (∃ (g2 : Int), #[Value.int IntKind.i32 g.snd] = #[Value.int IntKind.i32 g2] ∧ True ∧ ∀ (x1 : Nat) (w'1 : World), x1 = partP g2 ∧ Ext w' w'1 → ∃ (x2 : Bool), Value.bool (IntKind.i64.wrap (↑(BitVec.ofInt IntKind.i64.bits (6 : Int) &&& BitVec.ofInt IntKind.i64.bits (↑x1 : Int)).toNat : Int) != (0 : Int)) = Value.bool x2 ∧ x2 = sylB g.fst g.snd ∧ Ext w w'1) (bcase ((↑x : Int) == (4 : Int) || (↑x : Int) == (16 : Int)) (∃ (g2 : Int), #[Value.int IntKind.i32 g.snd] = #[Value.int IntKind.i32 g2] ∧ True ∧ ∀ (x1 : Nat) (w'1 : World), x1 = partP g2 ∧ Ext w' w'1 → ∃ (x2 : Bool), Value.bool (IntKind.i64.wrap (↑(BitVec.ofInt IntKind.i64.bits (4 : Int) &&& BitVec.ofInt IntKind.i64.bits (↑x1 : Int)).toNat : Int) != (0 : Int)) = Value.bool x2 ∧ x2 = sylB g.fst g.snd ∧ Ext w w'1) (∃ (g2 : Int), #[Value.int IntKind.i32 g.snd] = #[Value.int IntKind.i32 g2] ∧ True ∧ ∀ (x1 : Nat) (w'1 : World), x1 = partP g2 ∧ Ext w' w'1 → ∃ (x2 : Bool), Value.bool false = Value.bool x2 ∧ x2 = sylB g.fst g.snd ∧ Ext w w'1)))) :
    ((sTwoB sylB)).Ok Tryd.prog 111 :=
  ok_of_vc (sTwoB sylB) (annOf spGoes) spGoes (fun _ _ => rfl) (fun _ _ => rfl) hsp Tryd.func111 rfl (n := 2) (fun _ => rfl) (by kernel_rfl) (vcast (by kernel_rfl) h)

set_option maxRecDepth 1000000 in
theorem rregional_vc (hsp : SpecsOk Tryd.prog []) (h : ∀ (g : Int) (w : World), True → ∃ (x : Bool), Value.bool (decide (g ≥ (127462 : Int)) && decide (g ≤ (127487 : Int))) = Value.bool x ∧ x = regB g ∧ Ext w w) :
    ((sRB regB)).Ok Tryd.prog 121 :=
  ok_of_vc (sRB regB) (annOf []) [] (fun _ _ => rfl) (fun _ _ => rfl) hsp Tryd.func121 rfl (n := 1) (fun _ => rfl) (by kernel_rfl) (vcast (by kernel_rfl) h)

set_option maxRecDepth 1000000 in
theorem rjoiner_vc (hsp : SpecsOk Tryd.prog []) (h : ∀ (g : Int) (w : World), True → ∃ (x : Bool), Value.bool (g == (8204 : Int) || g == (8205 : Int)) = Value.bool x ∧ x = joinB g ∧ Ext w w) :
    ((sRB joinB)).Ok Tryd.prog 118 :=
  ok_of_vc (sRB joinB) (annOf []) [] (fun _ _ => rfl) (fun _ _ => rfl) hsp Tryd.func118 rfl (n := 1) (fun _ => rfl) (by kernel_rfl) (vcast (by kernel_rfl) h)

set_option maxRecDepth 1000000 in
theorem rpicture_vc (hsp : SpecsOk Tryd.prog spRPic) (h : ∀ (g : Int) (w : World), True → ∃ (g1 : Int), #[Value.int IntKind.i32 g] = #[Value.int IntKind.i32 g1] ∧ True ∧ ∀ (x : Int) (w' : World), x = kindR g1 ∧ w' = w → bcase (x == (7 : Int)) (∃ (g2 : Int × Bool), #[Value.int IntKind.i32 g, Value.bool false] = #[Value.int IntKind.i32 g2.fst, Value.bool g2.snd] ∧ True ∧ ∀ (x1 : Int) (w'1 : World), x1 = wideR g2.fst g2.snd ∧ w'1 = w' → ∃ (x2 : Bool), Value.bool (x1 == (2 : Int)) = Value.bool x2 ∧ x2 = picB g ∧ Ext w w'1) (∃ (x1 : Bool), Value.bool false = Value.bool x1 ∧ x1 = picB g ∧ Ext w w')) :
    ((sRB picB)).Ok Tryd.prog 141 :=
  ok_of_vc (sRB picB) (annOf spRPic) spRPic (fun _ _ => rfl) (fun _ _ => rfl) hsp Tryd.func141 rfl (n := 1) (fun _ => rfl) (by kernel_rfl) (vcast (by kernel_rfl) h)

set_option maxRecDepth 1000000 in
theorem ralone_vc (hsp : SpecsOk Tryd.prog spRAlone) (h : ∀ (g : Int) (w : World), True → ∃ (g1 : Int), #[Value.int IntKind.i32 g] = #[Value.int IntKind.i32 g1] ∧ True ∧ ∀ (x : Int) (w' : World), x = kindR g1 ∧ w' = w → bcase (x == (0 : Int)) (∃ (x1 : Bool), Value.bool true = Value.bool x1 ∧ x1 = aloneB g ∧ Ext w w') (bcase (g == (8232 : Int)) (∃ (x1 : Bool), Value.bool true = Value.bool x1 ∧ x1 = aloneB g ∧ Ext w w') (bcase (g == (8233 : Int)) (∃ (x1 : Bool), Value.bool true = Value.bool x1 ∧ x1 = aloneB g ∧ Ext w w') (bcase (x == (1 : Int)) (∃ (g2 : Int), #[Value.int IntKind.i32 g] = #[Value.int IntKind.i32 g2] ∧ True ∧ ∀ (x1 : Bool) (w'1 : World), x1 = joinB g2 ∧ Ext w' w'1 → ∃ (x2 : Bool), (Value.bool !x1) = Value.bool x2 ∧ x2 = aloneB g ∧ Ext w w'1) (∃ (x1 : Bool), Value.bool false = Value.bool x1 ∧ x1 = aloneB g ∧ Ext w w'))))) :
    ((sRB aloneB)).Ok Tryd.prog 124 :=
  ok_of_vc (sRB aloneB) (annOf spRAlone) spRAlone (fun _ _ => rfl) (fun _ _ => rfl) hsp Tryd.func124 rfl (n := 1) (fun _ => rfl) (by kernel_rfl) (vcast (by kernel_rfl) h)

set_option maxRecDepth 1000000 in
theorem rpart_vc (hsp : SpecsOk Tryd.prog []) (h : ∀ (g : Int) (w : World), True → bcase (decide (g ≥ (4352 : Int)) && decide (g ≤ (4447 : Int))) (∃ (x : Nat), Value.int IntKind.i64 (1 : Int) = Value.int IntKind.i64 (↑x : Int) ∧ x = partN g ∧ Ext w w) (bcase (decide (g ≥ (4448 : Int)) && decide (g ≤ (4519 : Int))) (∃ (x : Nat), Value.int IntKind.i64 (2 : Int) = Value.int IntKind.i64 (↑x : Int) ∧ x = partN g ∧ Ext w w) (bcase (decide (g ≥ (4520 : Int)) && decide (g ≤ (4607 : Int))) (∃ (x : Nat), Value.int IntKind.i64 (3 : Int) = Value.int IntKind.i64 (↑x : Int) ∧ x = partN g ∧ Ext w w) (bcase (decide (g ≥ (44032 : Int))) (bcase (decide (g ≤ (55203 : Int))) (InR IntKind.i32 (g - (44032 : Int)) ∧ (0 : Int) ≤ g - (44032 : Int) ∧ (0 : Int) < (28 : Int) ∧ bcase ((g - (44032 : Int)) % (28 : Int) == (0 : Int)) (∃ (x : Nat), Value.int IntKind.i64 (4 : Int) = Value.int IntKind.i64 (↑x : Int) ∧ x = partN g ∧ Ext w w) (bcase (decide (g ≥ (44032 : Int)) && decide (g ≤ (55203 : Int))) (∃ (x : Nat), Value.int IntKind.i64 (5 : Int) = Value.int IntKind.i64 (↑x : Int) ∧ x = partN g ∧ Ext w w) (∃ (x : Nat), Value.int IntKind.i64 (0 : Int) = Value.int IntKind.i64 (↑x : Int) ∧ x = partN g ∧ Ext w w))) (bcase (decide (g ≥ (44032 : Int)) && decide (g ≤ (55203 : Int))) (∃ (x : Nat), Value.int IntKind.i64 (5 : Int) = Value.int IntKind.i64 (↑x : Int) ∧ x = partN g ∧ Ext w w) (∃ (x : Nat), Value.int IntKind.i64 (0 : Int) = Value.int IntKind.i64 (↑x : Int) ∧ x = partN g ∧ Ext w w))) (bcase (decide (g ≥ (44032 : Int)) && decide (g ≤ (55203 : Int))) (∃ (x : Nat), Value.int IntKind.i64 (5 : Int) = Value.int IntKind.i64 (↑x : Int) ∧ x = partN g ∧ Ext w w) (∃ (x : Nat), Value.int IntKind.i64 (0 : Int) = Value.int IntKind.i64 (↑x : Int) ∧ x = partN g ∧ Ext w w)))))) :
    ((sRN partN)).Ok Tryd.prog 150 :=
  ok_of_vc (sRN partN) (annOf []) [] (fun _ _ => rfl) (fun _ _ => rfl) hsp Tryd.func150 rfl (n := 1) (fun _ => rfl) (by kernel_rfl) (vcast (by kernel_rfl) h)

set_option maxRecDepth 1000000 in
theorem syl_vc (hsp : SpecsOk Tryd.prog spSyl) (h : ∀ (g : Int × Int) (w : World), True → ∃ (g1 : Int), #[Value.int IntKind.i32 g.fst] = #[Value.int IntKind.i32 g1] ∧ True ∧ ∀ (x : Nat) (w' : World), x = partN g1 ∧ Ext w w' → ∃ (g2 : Int), #[Value.int IntKind.i32 g.snd] = #[Value.int IntKind.i32 g2] ∧ True ∧ ∀ (x1 : Nat) (w'1 : World), x1 = partN g2 ∧ Ext w' w'1 → bcase ((↑x : Int) == (1 : Int)) (∃ (x2 : Bool), Value.bool ((↑x1 : Int) == (1 : Int) || ((↑x1 : Int) == (2 : Int) || ((↑x1 : Int) == (4 : Int) || (↑x1 : Int) == (5 : Int)))) = Value.bool x2 ∧ x2 = sylB g.fst g.snd ∧ Ext w w'1) (bcase ((↑x : Int) == (2 : Int) || (↑x : Int) == (4 : Int)) (∃ (x2 : Bool), Value.bool ((↑x1 : Int) == (2 : Int) || (↑x1 : Int) == (3 : Int)) = Value.bool x2 ∧ x2 = sylB g.fst g.snd ∧ Ext w w'1) (bcase ((↑x : Int) == (3 : Int) || (↑x : Int) == (5 : Int)) (∃ (x2 : Bool), Value.bool ((↑x1 : Int) == (3 : Int)) = Value.bool x2 ∧ x2 = sylB g.fst g.snd ∧ Ext w w'1) (∃ (x2 : Bool), Value.bool false = Value.bool x2 ∧ x2 = sylB g.fst g.snd ∧ Ext w w'1)))) :
    ((sTwoB sylB)).Ok Tryd.prog 142 :=
  ok_of_vc (sTwoB sylB) (annOf spSyl) spSyl (fun _ _ => rfl) (fun _ _ => rfl) hsp Tryd.func142 rfl (n := 2) (fun _ => rfl) (by kernel_rfl) (vcast (by kernel_rfl) h)

set_option maxRecDepth 1000000 in
theorem takes_vc (hsp : SpecsOk Tryd.prog spTakes) (h : ∀ (g : GTk) (w : World), True → ∃ (g1 : Int), #[Value.int IntKind.i32 g.y] = #[Value.int IntKind.i32 g1] ∧ True ∧ ∀ (x : Int) (w' : World), x = kindR g1 ∧ w' = w → bcase (x == (2 : Int)) (∃ (x1 : Bool), Value.bool true = Value.bool x1 ∧ x1 = takesB g.x g.z g.y g.n ∧ Ext w w') (∃ (g2 : Int), #[Value.int IntKind.i32 g.y] = #[Value.int IntKind.i32 g2] ∧ True ∧ ∀ (x1 : Bool) (w'1 : World), x1 = joinB g2 ∧ Ext w' w'1 → bcase x1 (∃ (x2 : Bool), Value.bool true = Value.bool x2 ∧ x2 = takesB g.x g.z g.y g.n ∧ Ext w w'1) (bcase ((↑g.n : Int) == (1 : Int)) (∃ (g3 : Int), #[Value.int IntKind.i32 g.x] = #[Value.int IntKind.i32 g3] ∧ True ∧ ∀ (x2 : Bool) (w'2 : World), x2 = regB g3 ∧ Ext w'1 w'2 → bcase x2 (∃ (g4 : Int), #[Value.int IntKind.i32 g.y] = #[Value.int IntKind.i32 g4] ∧ True ∧ ∀ (x3 : Bool) (w'3 : World), x3 = regB g4 ∧ Ext w'2 w'3 → bcase x3 (∃ (x4 : Bool), Value.bool true = Value.bool x4 ∧ x4 = takesB g.x g.z g.y g.n ∧ Ext w w'3) (bcase (g.z == (8205 : Int)) (∃ (g5 : Int), #[Value.int IntKind.i32 g.x] = #[Value.int IntKind.i32 g5] ∧ True ∧ ∀ (x4 : Bool) (w'4 : World), x4 = picB g5 ∧ Ext w'3 w'4 → bcase x4 (∃ (g6 : Int), #[Value.int IntKind.i32 g.y] = #[Value.int IntKind.i32 g6] ∧ True ∧ ∀ (x5 : Bool) (w'5 : World), x5 = picB g6 ∧ Ext w'4 w'5 → bcase x5 (∃ (x6 : Bool), Value.bool true = Value.bool x6 ∧ x6 = takesB g.x g.z g.y g.n ∧ Ext w w'5) (∃ (g7 : Int × Int), #[Value.int IntKind.i32 g.z, Value.int IntKind.i32 g.y] = #[Value.int IntKind.i32 g7.fst, Value.int IntKind.i32 g7.snd] ∧ True ∧ ∀ (x6 : Bool) (w'6 : World), x6 = sylB g7.fst g7.snd ∧ Ext w'5 w'6 → ∃ (x7 : Bool), Value.bool x6 = Value.bool x7 ∧ x7 = takesB g.x g.z g.y g.n ∧ Ext w w'6)) (∃ (g6 : Int × Int), #[Value.int IntKind.i32 g.z, Value.int IntKind.i32 g.y] = #[Value.int IntKind.i32 g6.fst, Value.int IntKind.i32 g6.snd] ∧ True ∧ ∀ (x5 : Bool) (w'5 : World), x5 = sylB g6.fst g6.snd ∧ Ext w'4 w'5 → ∃ (x6 : Bool), Value.bool x5 = Value.bool x6 ∧ x6 = takesB g.x g.z g.y g.n ∧ Ext w w'5)) (∃ (g5 : Int × Int), #[Value.int IntKind.i32 g.z, Value.int IntKind.i32 g.y] = #[Value.int IntKind.i32 g5.fst, Value.int IntKind.i32 g5.snd] ∧ True ∧ ∀ (x4 : Bool) (w'4 : World), x4 = sylB g5.fst g5.snd ∧ Ext w'3 w'4 → ∃ (x5 : Bool), Value.bool x4 = Value.bool x5 ∧ x5 = takesB g.x g.z g.y g.n ∧ Ext w w'4))) (bcase (g.z == (8205 : Int)) (∃ (g4 : Int), #[Value.int IntKind.i32 g.x] = #[Value.int IntKind.i32 g4] ∧ True ∧ ∀ (x3 : Bool) (w'3 : World), x3 = picB g4 ∧ Ext w'2 w'3 → bcase x3 (∃ (g5 : Int), #[Value.int IntKind.i32 g.y] = #[Value.int IntKind.i32 g5] ∧ True ∧ ∀ (x4 : Bool) (w'4 : World), x4 = picB g5 ∧ Ext w'3 w'4 → bcase x4 (∃ (x5 : Bool), Value.bool true = Value.bool x5 ∧ x5 = takesB g.x g.z g.y g.n ∧ Ext w w'4) (∃ (g6 : Int × Int), #[Value.int IntKind.i32 g.z, Value.int IntKind.i32 g.y] = #[Value.int IntKind.i32 g6.fst, Value.int IntKind.i32 g6.snd] ∧ True ∧ ∀ (x5 : Bool) (w'5 : World), x5 = sylB g6.fst g6.snd ∧ Ext w'4 w'5 →
 ∃ (x6 : Bool), Value.bool x5 = Value.bool x6 ∧ x6 = takesB g.x g.z g.y g.n ∧ Ext w w'5)) (∃ (g5 : Int × Int), #[Value.int IntKind.i32 g.z, Value.int IntKind.i32 g.y] = #[Value.int IntKind.i32 g5.fst, Value.int IntKind.i32 g5.snd] ∧ True ∧ ∀ (x4 : Bool) (w'4 : World), x4 = sylB g5.fst g5.snd ∧ Ext w'3 w'4 → ∃ (x5 : Bool), Value.bool x4 = Value.bool x5 ∧ x5 = takesB g.x g.z g.y g.n ∧ Ext w w'4)) (∃ (g4 : Int × Int), #[Value.int IntKind.i32 g.z, Value.int IntKind.i32 g.y] = #[Value.int IntKind.i32 g4.fst, Value.int IntKind.i32 g4.snd] ∧ True ∧ ∀ (x3 : Bool) (w'3 : World), x3 = sylB g4.fst g4.snd ∧ Ext w'2 w'3 → ∃ (x4 : Bool), Value.bool x3 = Value.bool x4 ∧ x4 = takesB g.x g.z g.y g.n ∧ Ext w w'3))) (bcase (g.z == (8205 : Int)) (∃ (g3 : Int), #[Value.int IntKind.i32 g.x] = #[Value.int IntKind.i32 g3] ∧ True ∧ ∀ (x2 : Bool) (w'2 : World), x2 = picB g3 ∧ Ext w'1 w'2 → bcase x2 (∃ (g4 : Int), #[Value.int IntKind.i32 g.y] = #[Value.int IntKind.i32 g4] ∧ True ∧ ∀ (x3 : Bool) (w'3 : World), x3 = picB g4 ∧ Ext w'2 w'3 → bcase x3 (∃ (x4 : Bool), Value.bool true = Value.bool x4 ∧ x4 = takesB g.x g.z g.y g.n ∧ Ext w w'3) (∃ (g5 : Int × Int), #[Value.int IntKind.i32 g.z, Value.int IntKind.i32 g.y] = #[Value.int IntKind.i32 g5.fst, Value.int IntKind.i32 g5.snd] ∧ True ∧ ∀ (x4 : Bool) (w'4 : World), x4 = sylB g5.fst g5.snd ∧ Ext w'3 w'4 → ∃ (x5 : Bool), Value.bool x4 = Value.bool x5 ∧ x5 = takesB g.x g.z g.y g.n ∧ Ext w w'4)) (∃ (g4 : Int × Int), #[Value.int IntKind.i32 g.z, Value.int IntKind.i32 g.y] = #[Value.int IntKind.i32 g4.fst, Value.int IntKind.i32 g4.snd] ∧ True ∧ ∀ (x3 : Bool) (w'3 : World), x3 = sylB g4.fst g4.snd ∧ Ext w'2 w'3 → ∃ (x4 : Bool), Value.bool x3 = Value.bool x4 ∧ x4 = takesB g.x g.z g.y g.n ∧ Ext w w'3)) (∃ (g3 : Int × Int), #[Value.int IntKind.i32 g.z, Value.int IntKind.i32 g.y] = #[Value.int IntKind.i32 g3.fst, Value.int IntKind.i32 g3.snd] ∧ True ∧ ∀ (x2 : Bool) (w'2 : World), x2 = sylB g3.fst g3.snd ∧ Ext w'1 w'2 → ∃ (x3 : Bool), Value.bool x2 = Value.bool x3 ∧ x3 = takesB g.x g.z g.y g.n ∧ Ext w w'2))))) :
    (sTakes).Ok Tryd.prog 125 :=
  ok_of_vc sTakes (annOf spTakes) spTakes (fun _ _ => rfl) (fun _ _ => rfl) hsp Tryd.func125 rfl (n := 4) (fun _ => rfl) (by kernel_rfl) (vcast (by kernel_rfl) h)

end Go.Proofs.YthpjkgoahneldaaDoor
end

section
/-
  Chapter 3: what a character is: the program's words and the document's say the same.
-/
namespace Go.Proofs.YthpjkgoahneldaaDoor
open Go Go.RowKit Vc Tb Cl

theorem regional_ok : (sRB regB).Ok Tryd.prog 109 := by
  refine regional_vc trivial ?_
  intro r w _
  exact ⟨_, rfl, rfl, Ext.refl _⟩
theorem rregional_ok : (sRB regB).Ok Tryd.prog 121 := by
  refine rregional_vc trivial ?_
  intro r w _
  exact ⟨_, rfl, rfl, Ext.refl _⟩
theorem joiner_ok : (sRB joinB).Ok Tryd.prog 108 := by
  refine joiner_vc trivial ?_
  intro r w _
  exact ⟨_, rfl, rfl, Ext.refl _⟩
theorem rjoiner_ok : (sRB joinB).Ok Tryd.prog 118 := by
  refine rjoiner_vc trivial ?_
  intro r w _
  exact ⟨_, rfl, rfl, Ext.refl _⟩
theorem picture_ok : (sRB picB).Ok Tryd.prog 110 := by
  refine picture_vc ⟨ckind_ok, cwide_ok, trivial⟩ ?_
  intro r w _
  refine ⟨r, rfl, trivial, ?_⟩
  rintro _ w1 ⟨rfl, e1⟩
  refine bcase_mk (fun h => ?_) (fun h => ?_)
  · refine ⟨(r, false), rfl, trivial, ?_⟩
    rintro _ w2 ⟨rfl, e2⟩
    refine ⟨_, rfl, ?_, e1.trans e2⟩
    unfold picB; rw [h]; rfl
  · refine ⟨_, rfl, ?_, e1⟩
    unfold picB; rw [h]; rfl
theorem rpicture_ok : (sRB picB).Ok Tryd.prog 141 := by
  refine rpicture_vc ⟨rkind_ok, rwide_ok, trivial⟩ ?_
  intro r w _
  refine ⟨r, rfl, trivial, ?_⟩
  rintro _ _ ⟨rfl, rfl⟩
  refine bcase_mk (fun h => ?_) (fun h => ?_)
  · refine ⟨(r, false), rfl, trivial, ?_⟩
    rintro _ _ ⟨rfl, rfl⟩
    refine ⟨_, rfl, ?_, Ext.refl _⟩
    unfold picB; rw [h]; rfl
  · refine ⟨_, rfl, ?_, Ext.refl _⟩
    unfold picB; rw [h]; rfl
theorem alone_ok : (sRB aloneB).Ok Tryd.prog 107 := by
  refine alone_vc ⟨ckind_ok, joiner_ok, trivial⟩ ?_
  intro r w _
  refine ⟨r, rfl, trivial, ?_⟩
  rintro _ w1 ⟨rfl, e1⟩
  refine bcase_mk (fun h => ⟨_, rfl, ?_, e1⟩) (fun h => bcase_mk (fun h1 => ?_) (fun h1 => ⟨_, rfl, ?_, e1⟩))
  · unfold aloneB; rw [h]; rfl
  · refine ⟨r, rfl, trivial, ?_⟩
    rintro _ w2 ⟨rfl, e2⟩
    refine ⟨_, rfl, ?_, e1.trans e2⟩
    have hr : (r == 8232 || r == 8233) = false := by
      rw [Bool.or_eq_false_iff, beq_eq_false_iff_ne, beq_eq_false_iff_ne]
      have hk : kindR r = 1 := by simpa using h1
      refine ⟨?_, ?_⟩
      · rintro rfl; revert hk; decide +kernel
      · rintro rfl; revert hk; decide +kernel
    unfold aloneB; rw [h, h1, hr]; simp
  · unfold aloneB; rw [h, h1]; simp
theorem ralone_ok : (sRB aloneB).Ok Tryd.prog 124 := by
  refine ralone_vc ⟨rkind_ok, rjoiner_ok, trivial⟩ ?_
  intro r w _
  refine ⟨r, rfl, trivial, ?_⟩
  rintro _ _ ⟨rfl, rfl⟩
  refine bcase_mk (fun h => ⟨_, rfl, ?_, Ext.refl _⟩) (fun h => bcase_mk (fun h1 => ⟨_, rfl, ?_, Ext.refl _⟩) (fun h1 => bcase_mk (fun h2 => ⟨_, rfl, ?_, Ext.refl _⟩) (fun h2 => bcase_mk (fun h3 => ?_) (fun h3 => ⟨_, rfl, ?_, Ext.refl _⟩))))
  · unfold aloneB; rw [h]; rfl
  · unfold aloneB; rw [h, h1]; rfl
  · unfold aloneB; rw [h, h1, h2]; rfl
  · refine ⟨r, rfl, trivial, ?_⟩
    rintro _ w2 ⟨rfl, e2⟩
    refine ⟨_, rfl, ?_, e2⟩
    unfold aloneB; rw [h, h1, h2, h3]; simp
  · unfold aloneB; rw [h, h1, h2, h3]; rfl
theorem part_ok : (sRN partP).Ok Tryd.prog 131 := by
  refine part_vc trivial ?_
  intro r w _
  have hP : ∀ {k : Nat} {v : Int} {n : Nat}, partN r = k → bitN k = n → v = (n : Int) → ∃ x : Nat, Value.int .i64 v = .int .i64 (x : Int) ∧ x = partP r ∧ Ext w w := by
    intro k v n h1 h2 h3
    exact ⟨n, by rw [h3], by unfold partP; rw [h1, h2], Ext.refl _⟩
  refine bcase_mk (fun h => ?_) (fun h => ?_)
  · have h : r < 4352 ∨ 55203 < r := by simpa using h
    refine hP (k := 0) ?_ rfl rfl
    unfold partN
    rw [if_neg (by omega), if_neg (by omega), if_neg (by omega), if_neg (by omega)]
  have h : ¬ r < 4352 ∧ ¬ 55203 < r := by simpa using h
  refine bcase_mk (fun h1 => ?_) (fun h1 => ?_)
  · have h1 := of_decide_eq_true h1
    refine hP (k := 1) ?_ rfl rfl
    unfold partN; rw [if_pos (by omega)]
  have h1 := of_decide_eq_false h1
  refine bcase_mk (fun h2 => ?_) (fun h2 => ?_)
  · have h2 := of_decide_eq_true h2
    refine hP (k := 2) ?_ rfl rfl
    unfold partN; rw [if_neg (by omega), if_pos (by omega)]
  have h2 := of_decide_eq_false h2
  refine bcase_mk (fun h3 => ?_) (fun h3 => ?_)
  · have h3 := of_decide_eq_true h3
    refine hP (k := 3) ?_ rfl rfl
    unfold partN; rw [if_neg (by omega), if_neg (by omega), if_pos (by omega)]
  have h3 := of_decide_eq_false h3
  refine bcase_mk (fun h4 => ?_) (fun h4 => ?_)
  · have h4 := of_decide_eq_true h4
    refine hP (k := 0) ?_ rfl rfl
    unfold partN; rw [if_neg (by omega), if_neg (by omega), if_neg (by omega), if_neg (by omega)]
  have h4 := of_decide_eq_false h4
  refine ⟨inr_i32 (by omega) (by omega), by omega, by omega, bcase_mk (fun h5 => ?_) (fun h5 => ?_)⟩
  · have h5 : (r - 44032) % 28 = 0 := by simpa using h5
    refine hP (k := 4) ?_ rfl rfl
    unfold partN; rw [if_neg (by omega), if_neg (by omega), if_neg (by omega), if_pos (by omega), if_pos h5]
  · have h5 : ¬ (r - 44032) % 28 = 0 := by simpa using h5
    refine hP (k := 5) ?_ rfl rfl
    unfold partN; rw [if_neg (by omega), if_neg (by omega), if_neg (by omega), if_pos (by omega), if_neg h5]
theorem rpart_ok : (sRN partN).Ok Tryd.prog 150 := by
  refine rpart_vc trivial ?_
  intro r w _
  have hP : ∀ {n : Nat} {v : Int}, partN r = n → v = (n : Int) → ∃ x : Nat, Value.int .i64 v = .int .i64 (x : Int) ∧ x = partN r ∧ Ext w w := by
    intro n v h1 h3
    exact ⟨n, by rw [h3], h1.symm, Ext.refl _⟩
  refine bcase_mk (fun h => ?_) (fun h => ?_)
  · simp only [Bool.and_eq_true, decide_eq_true_eq] at h
    refine hP (n := 1) ?_ rfl
    unfold partN; rw [if_pos (by omega)]
  simp only [Bool.and_eq_false_iff, decide_eq_false_iff_not] at h
  refine bcase_mk (fun h1 => ?_) (fun h1 => ?_)
  · simp only [Bool.and_eq_true, decide_eq_true_eq] at h1
    refine hP (n := 2) ?_ rfl
    unfold partN; rw [if_neg (by omega), if_pos (by omega)]
  simp only [Bool.and_eq_false_iff, decide_eq_false_iff_not] at h1
  refine bcase_mk (fun h2 => ?_) (fun h2 => ?_)
  · simp only [Bool.and_eq_true, decide_eq_true_eq] at h2
    refine hP (n := 3) ?_ rfl
    unfold partN; rw [if_neg (by omega), if_neg (by omega), if_pos (by omega)]
  simp only [Bool.and_eq_false_iff, decide_eq_false_iff_not] at h2
  have none : ¬ (44032 ≤ r ∧ r ≤ 55203) → partN r = 0 := fun h4 => by
    unfold partN; rw [if_neg (by omega), if_neg (by omega), if_neg (by omega), if_neg h4]
  have last : ∀ (A : ¬ (44032 ≤ r ∧ r ≤ 55203)), bcase (decide (r ≥ 44032) && decide (r ≤ 55203)) (∃ x : Nat, Value.int .i64 5 = .int .i64 (x : Int) ∧ x = partN r ∧ Ext w w) (∃ x : Nat, Value.int .i64 0 = .int .i64 (x : Int) ∧ x = partN r ∧ Ext w w) := fun A =>
    bcase_mk (fun h => by simp only [Bool.and_eq_true, decide_eq_true_eq] at h; omega) (fun _ => hP (none A) rfl)
  refine bcase_mk (fun h3 => ?_) (fun h3 => last (by have := of_decide_eq_false h3; omega))
  refine bcase_mk (fun h4 => ?_) (fun h4 => last (by have := of_decide_eq_false h4; omega))
  have h3 := of_decide_eq_true h3
  have h4 := of_decide_eq_true h4
  refine ⟨inr_i32 (by omega) (by omega), by omega, by omega, bcase_mk (fun h5 => ?_) (fun h5 => ?_)⟩
  · have h5 : (r - 44032) % 28 = 0 := by simpa using h5
    refine hP (n := 4) ?_ rfl
    unfold partN; rw [if_neg (by omega), if_neg (by omega), if_neg (by omega), if_pos (by omega), if_pos h5]
  · have h5 : ¬ (r - 44032) % 28 = 0 := by simpa using h5
    refine bcase_mk (fun _ => hP (n := 5) ?_ rfl) (fun h => by simp only [Bool.and_eq_false_iff, decide_eq_false_iff_not] at h; omega)
    unfold partN; rw [if_neg (by omega), if_neg (by omega), if_neg (by omega), if_pos (by omega), if_neg h5]

theorem part_lt (r : Int) : partN r < 6 := by
  unfold partN
  repeat' split
  all_goals omega
theorem goes_all : ∀ a : Fin 6, ∀ b : Fin 6, (bitN a.val = 1 → (IntKind.i64.wrap ((BitVec.ofInt IntKind.i64.bits 27 &&& BitVec.ofInt IntKind.i64.bits ((bitN b.val : Nat) : Int)).toNat : Int) != 0) = sylT a.val b.val) ∧
    ((bitN a.val = 2 ∨ bitN a.val = 8) → (IntKind.i64.wrap ((BitVec.ofInt IntKind.i64.bits 6 &&& BitVec.ofInt IntKind.i64.bits ((bitN b.val : Nat) : Int)).toNat : Int) != 0) = sylT a.val b.val) ∧
    ((bitN a.val = 4 ∨ bitN a.val = 16) → (IntKind.i64.wrap ((BitVec.ofInt IntKind.i64.bits 4 &&& BitVec.ofInt IntKind.i64.bits ((bitN b.val : Nat) : Int)).toNat : Int) != 0) = sylT a.val b.val) ∧
    (bitN a.val ≠ 1 → bitN a.val ≠ 2 → bitN a.val ≠ 8 → bitN a.val ≠ 4 → bitN a.val ≠ 16 → false = sylT a.val b.val) := by decide +kernel
theorem goesP_ok : (sTwoB sylB).Ok Tryd.prog 111 := by
  refine goesP_vc ⟨part_ok, trivial⟩ ?_
  rintro ⟨a, b⟩ w _
  dsimp only
  obtain ⟨g1, g2, g3, g4⟩ := goes_all ⟨partN a, part_lt a⟩ ⟨partN b, part_lt b⟩
  dsimp only at g1 g2 g3 g4
  refine ⟨a, rfl, trivial, ?_⟩
  rintro _ w1 ⟨rfl, e1⟩
  refine bcase_mk (fun h => ?_) (fun h => ?_)
  · refine ⟨b, rfl, trivial, ?_⟩
    rintro _ w2 ⟨rfl, e2⟩
    exact ⟨_, rfl, g1 (by simp only [beq_iff_eq] at h; unfold partP at h; omega), e1.trans e2⟩
  refine bcase_mk (fun h1 => ?_) (fun h1 => ?_)
  · refine ⟨b, rfl, trivial, ?_⟩
    rintro _ w2 ⟨rfl, e2⟩
    exact ⟨_, rfl, g2 (by simp only [Bool.or_eq_true, beq_iff_eq] at h1; unfold partP at h1; omega), e1.trans e2⟩
  refine bcase_mk (fun h2 => ?_) (fun h2 => ?_)
  · refine ⟨b, rfl, trivial, ?_⟩
    rintro _ w2 ⟨rfl, e2⟩
    exact ⟨_, rfl, g3 (by simp only [Bool.or_eq_true, beq_iff_eq] at h2; unfold partP at h2; omega), e1.trans e2⟩
  · refine ⟨b, rfl, trivial, ?_⟩
    rintro _ w2 ⟨rfl, e2⟩
    simp only [Bool.or_eq_false_iff, beq_eq_false_iff_ne, ne_eq] at h h1 h2
    unfold partP at h h1 h2
    exact ⟨_, rfl, g4 (by omega) (by omega) (by omega) (by omega) (by omega), e1.trans e2⟩
theorem syl_all : ∀ a : Fin 6, ∀ b : Fin 6, (a.val = 1 → (((b.val : Nat) : Int) == 1 || (((b.val : Nat) : Int) == 2 || (((b.val : Nat) : Int) == 4 || ((b.val : Nat) : Int) == 5))) = sylT a.val b.val) ∧ ((a.val = 2 ∨ a.val = 4) → (((b.val : Nat) : Int) == 2 || ((b.val : Nat) : Int) == 3) = sylT a.val b.val) ∧
    ((a.val = 3 ∨ a.val = 5) → (((b.val : Nat) : Int) == 3) = sylT a.val b.val) ∧ (a.val = 0 → false = sylT a.val b.val) := by decide +kernel
theorem syl_ok : (sTwoB sylB).Ok Tryd.prog 142 := by
  refine syl_vc ⟨rpart_ok, trivial⟩ ?_
  rintro ⟨a, b⟩ w _
  dsimp only
  obtain ⟨g1, g2, g3, g4⟩ := syl_all ⟨partN a, part_lt a⟩ ⟨partN b, part_lt b⟩
  have hlt := part_lt a
  dsimp only at g1 g2 g3 g4
  refine ⟨a, rfl, trivial, ?_⟩
  rintro _ w1 ⟨rfl, e1⟩
  refine ⟨b, rfl, trivial, ?_⟩
  rintro _ w2 ⟨rfl, e2⟩
  have E := e1.trans e2
  refine bcase_mk (fun h => ⟨_, rfl, g1 (by simp only [beq_iff_eq] at h; omega), E⟩) (fun h => ?_)
  refine bcase_mk (fun h1 => ⟨_, rfl, g2 (by simp only [Bool.or_eq_true, beq_iff_eq] at h1; omega), E⟩) (fun h1 => ?_)
  refine bcase_mk (fun h2 => ⟨_, rfl, g3 (by simp only [Bool.or_eq_true, beq_iff_eq] at h2; omega), E⟩) (fun h2 => ?_)
  simp only [Bool.or_eq_false_iff, beq_eq_false_iff_ne, ne_eq] at h h1 h2
  exact ⟨_, rfl, g4 (by omega), E⟩

theorem takes_ok : sTakes.Ok Tryd.prog 125 := by
  refine takes_vc ⟨rkind_ok, rjoiner_ok, rregional_ok, rpicture_ok, syl_ok, trivial⟩ ?_
  rintro ⟨x, z, y, n⟩ w _
  dsimp only
  have hn : ((n : Int) == 1) = (n == 1) := by
    rw [Bool.eq_iff_iff, beq_iff_eq, beq_iff_eq]; omega
  rw [hn]
  clear hn
  refine ⟨y, rfl, trivial, ?_⟩
  rintro _ w1 ⟨rfl, hw⟩
  have E : Ext w w1 := by rw [hw]; exact Ext.refl w
  clear hw
  repeat' first
    | refine ⟨_, rfl, ?_, E⟩
    | refine bcase_mk (fun h => ?_) (fun h => ?_)
    | (refine ⟨_, rfl, trivial, ?_⟩; rintro _ _ ⟨rfl, e⟩; replace E := E.trans e)
    | (refine ⟨(_, _), rfl, trivial, ?_⟩; rintro _ _ ⟨rfl, e⟩; replace E := E.trans e)
  all_goals (clear E; simp_all only [takesB, Bool.true_or, Bool.or_true, Bool.false_or, Bool.and_true, Bool.and_false, Bool.false_and, Bool.true_and, Bool.or_false])

end Go.Proofs.YthpjkgoahneldaaDoor
end

section
/-
  Chapter 3: the program's step is the document's.
-/
namespace Go.Proofs.YthpjkgoahneldaaDoor
open Go Go.RowKit Vc Ut Tb Cl

theorem next_first {s : ByteArray} (h : 0 < s.size) : nextL s = pos s (firstN s 0) := by
  have h0 : 0 < ncl s := Nat.pos_of_ne_zero (fun e => by have := ncl_zero.1 e; omega)
  unfold nextL bp
  rw [bk_succ h0]
  show pos s (bk s 0 + firstN s (bk s 0)) = _
  rw [show bk s 0 = 0 from rfl, Nat.zero_add]
theorem next_zero {s : ByteArray} (h : s.size = 0) : nextL s = 0 := by
  have := bp_le s 1
  unfold nextL; omega
theorem goB0 (s : ByteArray) (n : Nat) : goB s 0 n = (decide (n < cnt s) && (decide (n < 32) && (!isBad s n && takesB (sg s 0) (sg s (n - 1)) (sg s n) n))) := by
  unfold goB; rw [Nat.zero_add]

/-- Where the run stands with n signs taken. -/
structure At (s : ByteArray) (n : Nat) : Prop where
  pos : 1 ≤ n
  cnt : n ≤ cnt s
  most : n ≤ 32
  size : 0 < s.size
  go : goN s 0 (33 - n) n = firstN s 0
theorem At.stop {s : ByteArray} {n : Nat} (h : At s n) (hg : goB s 0 n = false) : Ut.pos s n = nextL s := by
  rw [next_first h.size, ← h.go, goN_stop hg]
theorem At.next {s : ByteArray} {n : Nat} (h : At s n) (hg : goB s 0 n = true) : At s (n + 1) := by
  have h1 := goN_step hg
  rw [goB0] at hg
  simp only [Bool.and_eq_true, decide_eq_true_eq] at hg
  exact ⟨by omega, by omega, by omega, h.size, by rw [← h1.2]; exact h.go⟩
/-- What the test says: the text's end, or a bad byte. -/
theorem At.test {s : ByteArray} {n : Nat} (h : At s n) {r : Int} {k : Nat} (hr : r = nxR (s.extract (Ut.pos s n) s.size)) (hk : k = nxN (s.extract (Ut.pos s n) s.size)) (hn : n < 32) :
    (((Ut.pos s n : Int) == (s.size : Int) || r == 65533 && (k : Int) == 1) = true → goB s 0 n = false) ∧
    (((Ut.pos s n : Int) == (s.size : Int) || r == 65533 && (k : Int) == 1) = false → Ut.pos s n < s.size ∧ r = sg s n ∧ k = dcN s (Ut.pos s n) ∧ goB s 0 n = takesB (sg s 0) (sg s (n - 1)) (sg s n) n) := by
  have hle := pos_le s n
  rw [goB0]
  by_cases hp : Ut.pos s n < s.size
  · obtain ⟨e1, e2⟩ := nx_drop hp
    rw [e1] at hr; rw [e2] at hk
    subst hr hk
    have hc := cnt_lt.2 hp
    have hne : ((Ut.pos s n : Int) == (s.size : Int)) = false := by rw [beq_eq_false_iff_ne]; omega
    have hb : (dcR s (Ut.pos s n) == 65533 && ((dcN s (Ut.pos s n) : Nat) : Int) == 1) = isBad s n := by
      unfold isBad
      rw [Bool.eq_iff_iff]
      simp only [Bool.and_eq_true, beq_iff_eq, decide_eq_true_eq]
      omega
    rw [hne, Bool.false_or, hb, decide_eq_true hc, decide_eq_true hn]
    refine ⟨fun h => by rw [h]; rfl, fun h => ⟨hp, rfl, rfl, by rw [h]; rfl⟩⟩
  · have he : Ut.pos s n = s.size := by omega
    have hc : ¬ n < Ut.cnt s := fun hh => hp (cnt_lt.1 hh)
    have h1 : ((Ut.pos s n : Int) == (s.size : Int)) = true := by rw [he]; exact beq_self_eq_true _
    rw [h1]
    refine ⟨fun _ => by rw [decide_eq_false hc]; rfl, fun h => by simp at h⟩

theorem cnext_ok : (sSN nextL).Ok Tryd.prog 76 := by
  refine cnext_vc ⟨next_ok, alone_ok, ckind_ok, joiner_ok, regional_ok, picture_ok, goesP_ok, trivial⟩ ?_
  rintro (s : ByteArray) w ⟨hU, hsm⟩
  have hp0 : pos s 0 = 0 := rfl
  refine ⟨?_, ?_, ?_, trivial⟩
  · refine ⟨s, rfl, ⟨hU, hsm⟩, ?_⟩
    rintro ⟨r, m⟩ w1 ⟨hr, hm, e1⟩
    dsimp only at hr hm ⊢
    refine bcase_mk (fun h => ?_) (fun h => ?_)
    · rw [str_nil] at h
      refine ⟨0, rfl, ?_, e1⟩
      rw [next_zero (of_decide_eq_true h)]
    rw [str_nil] at h
    have hz : 0 < s.size := Nat.pos_of_ne_zero (of_decide_eq_false h)
    have hc0 : 0 < cnt s := cnt_lt.2 (by rw [hp0]; exact hz)
    have hR : r = sg s 0 := by rw [hr]; unfold nxR sg; rw [if_neg (by omega), hp0]
    have hM : m = pos s 1 := by rw [hm, pos_succ (n := 0) (by rw [hp0]; exact hz), hp0]; unfold nxN; rw [if_neg (by omega), Nat.zero_add]
    have hMd : m = dcN s (pos s 0) := by rw [hM, pos_succ (n := 0) (by rw [hp0]; exact hz), hp0, Nat.zero_add]
    clear hr hm
    -- what follows where the first sign neither is bad nor stands alone
    have go : ∀ {w2 : World}, Ext w w2 → isBad s 0 = false → aloneB (sg s 0) = false → At s 1 := by
      intro w2 _ hb ha
      refine ⟨Nat.le_refl _, hc0, by decide, hz, ?_⟩
      have hcr : crB s 0 = false := by
        unfold crB
        by_cases h13 : sg s 0 = 13
        · rw [h13, alone_13] at ha; cases ha
        · rw [beq_eq_false_iff_ne.2 h13]; rfl
      unfold firstN
      rw [if_neg (by rw [hb]; decide), if_neg (by rw [hcr]; decide), if_neg (by rw [ha]; decide)]
    subst hR
    have key : ∀ {w2 : World}, Ext w w2 → At s 1 → ∀ (k : Nat), (m : Int) = (k : Int) → k = pos s 1 := fun _ _ k hk => by omega
    have hbad : isBad s 0 = (sg s 0 == 65533 && (m : Int) == 1) := by
      unfold isBad
      rw [Bool.eq_iff_iff]
      simp only [Bool.and_eq_true, beq_iff_eq, decide_eq_true_eq]
      unfold sg
      omega
    have single : ∀ {w2 : World}, Ext w w2 → (isBad s 0 = true ∨ aloneB (sg s 0) = true) → ∃ _ : Unit, Value.int .i32 (sg s 0) = .int .i32 (sg s 0) ∧ Value.int .i64 (m : Int) = .int .i64 (pos s 1 : Int) ∧ 0 < s.size ∧ (isBad s 0 = true ∨ aloneB (sg s 0) = true) ∧ Ext w w2 := fun e hh => ⟨(), rfl, by rw [hM], hz, hh, e⟩
    refine bcase_mk (fun h1 => bcase_mk (fun h2 => single e1 (.inl (by rw [hbad, h1, h2]; rfl))) (fun h2 => ?_)) (fun h1 => ?_)
    · have hb : isBad s 0 = false := by rw [hbad]; simp [h2]
      refine ⟨sg s 0, rfl, trivial, ?_⟩
      rintro _ w2 ⟨rfl, e2⟩
      refine bcase_mk (fun ha => single (e1.trans e2) (.inr ha)) (fun ha => ?_)
      have hA := go (e1.trans e2) hb ha
      have hple := pos_le s 1
      refine ⟨pos s 1, by rw [hM], hple, Nat.le_refl _, _, rfl, ⟨hU.ext (e1.trans e2), ext_size hsm⟩, ?_⟩
      rintro ⟨r', m'⟩ w3 ⟨hr', hm', e3⟩
      dsimp only at hr' hm' ⊢
      obtain ⟨t1, t2⟩ := hA.test hr' hm' (by decide)
      have E3 := (e1.trans e2).trans e3
      rw [hM]
      refine ⟨?_, ?_⟩
      · refine bcase_mk (fun h3 => ⟨_, rfl, hA.stop (t1 h3), E3⟩) (fun h3 => ?_)
        obtain ⟨hp, hr2, hm2, hgo⟩ := t2 h3
        clear t1 t2 h3 hr' hm'
        subst hr2
        have take : takesB (sg s 0) (sg s 0) (sg s 1) 1 = true → goB s 0 1 = true := fun h => by rw [hgo]; exact h
        have stop : takesB (sg s 0) (sg s 0) (sg s 1) 1 = false → pos s 1 = nextL s := fun h => hA.stop (by rw [hgo]; exact h)
        refine ⟨sg s 1, rfl, trivial, ?_⟩
        rintro _ w4 ⟨rfl, e4⟩
        clear hgo single hbad go key h1 hb ha
        have E := e4
        clear e4
        repeat' first
          | refine ⟨1, rfl, take ?_, E⟩
          | refine ⟨_, rfl, stop ?_, E3.trans E⟩
          | refine bcase_mk (fun h => ?_) (fun h => ?_)
          | (refine ⟨_, rfl, trivial, ?_⟩; rintro _ _ ⟨rfl, e⟩; replace E := E.trans e)
          | (refine ⟨(_, _), rfl, trivial, ?_⟩; rintro _ _ ⟨rfl, e⟩; replace E := E.trans e)
        all_goals (clear E take stop; first | (simp_all only [takesB, Bool.true_or, Bool.or_true, Bool.false_or, Bool.or_false, Bool.and_true, Bool.and_false, Bool.false_and, Bool.true_and, beq_self_eq_true, reduceCtorEq]; done) | (simp_all only [takesB, Bool.true_or, Bool.or_true, Bool.false_or, Bool.or_false, Bool.and_true, Bool.and_false, Bool.false_and, Bool.true_and, beq_self_eq_true, reduceCtorEq]; rename_i h; exact h))
      · rintro _ c w5 ⟨hc, hg, e5⟩
        have hc1 : c = 1 := by omega
        subst hc1
        have hN := hA.next hg
        have hp := cnt_lt.1 (show 1 < cnt s from hN.cnt)
        obtain ⟨x1, x2⟩ := nx_drop hp
        rw [x1] at hr'; rw [x2] at hm'
        have hdc := dcN_le hp
        have hps := pos_succ hp
        refine ⟨inr_i64 (by omega) (by omega), inr_i64 (by omega) (by omega), 2, rfl, by rw [hr']; rfl, rfl, ?_, hN.pos, hN.cnt, hN.most, hN.size, hN.go, E3.trans e5⟩
        rw [hps, hm']; simp
    · have hb : isBad s 0 = false := by rw [hbad]; simp [h1]
      refine ⟨sg s 0, rfl, trivial, ?_⟩
      rintro _ w2 ⟨rfl, e2⟩
      refine bcase_mk (fun ha => single (e1.trans e2) (.inr ha)) (fun ha => ?_)
      have hA := go (e1.trans e2) hb ha
      have hple := pos_le s 1
      refine ⟨pos s 1, by rw [hM], hple, Nat.le_refl _, _, rfl, ⟨hU.ext (e1.trans e2), ext_size hsm⟩, ?_⟩
      rintro ⟨r', m'⟩ w3 ⟨hr', hm', e3⟩
      dsimp only at hr' hm' ⊢
      obtain ⟨t1, t2⟩ := hA.test hr' hm' (by decide)
      have E3 := (e1.trans e2).trans e3
      rw [hM]
      refine ⟨?_, ?_⟩
      · refine bcase_mk (fun h3 => ⟨_, rfl, hA.stop (t1 h3), E3⟩) (fun h3 => ?_)
        obtain ⟨hp, hr2, hm2, hgo⟩ := t2 h3
        clear t1 t2 h3 hr' hm'
        subst hr2
        have take : takesB (sg s 0) (sg s 0) (sg s 1) 1 = true → goB s 0 1 = true := fun h => by rw [hgo]; exact h
        have stop : takesB (sg s 0) (sg s 0) (sg s 1) 1 = false → pos s 1 = nextL s := fun h => hA.stop (by rw [hgo]; exact h)
        refine ⟨sg s 1, rfl, trivial, ?_⟩
        rintro _ w4 ⟨rfl, e4⟩
        clear hgo single hbad go key h1 hb ha
        have E := e4
        clear e4
        repeat' first
          | refine ⟨1, rfl, take ?_, E⟩
          | refine ⟨_, rfl, stop ?_, E3.trans E⟩
          | refine bcase_mk (fun h => ?_) (fun h => ?_)
          | (refine ⟨_, rfl, trivial, ?_⟩; rintro _ _ ⟨rfl, e⟩; replace E := E.trans e)
          | (refine ⟨(_, _), rfl, trivial, ?_⟩; rintro _ _ ⟨rfl, e⟩; replace E := E.trans e)
        all_goals (clear E take stop; first | (simp_all only [takesB, Bool.true_or, Bool.or_true, Bool.false_or, Bool.or_false, Bool.and_true, Bool.and_false, Bool.false_and, Bool.true_and, beq_self_eq_true, reduceCtorEq]; done) | (simp_all only [takesB, Bool.true_or, Bool.or_true, Bool.false_or, Bool.or_false, Bool.and_true, Bool.and_false, Bool.false_and, Bool.true_and, beq_self_eq_true, reduceCtorEq]; rename_i h; exact h))
      · rintro _ c w5 ⟨hc, hg, e5⟩
        have hc1 : c = 1 := by omega
        subst hc1
        have hN := hA.next hg
        have hp := cnt_lt.1 (show 1 < cnt s from hN.cnt)
        obtain ⟨x1, x2⟩ := nx_drop hp
        rw [x1] at hr'; rw [x2] at hm'
        have hdc := dcN_le hp
        have hps := pos_succ hp
        refine ⟨inr_i64 (by omega) (by omega), inr_i64 (by omega) (by omega), 2, rfl, by rw [hr']; rfl, rfl, ?_, hN.pos, hN.cnt, hN.most, hN.size, hN.go, E3.trans e5⟩
        rw [hps, hm']; simp
  · rintro _ n w1 ⟨n1, n2, n3, n4, n5, e1⟩
    have hA : At s n := ⟨n1, n2, n3, n4, n5⟩
    refine bcase_mk (fun h => ⟨_, rfl, hA.stop ?_, e1⟩) (fun h => ?_)
    · have h : n = 32 := by simp only [beq_iff_eq] at h; omega
      rw [goB0, h]; simp
    have hn : n < 32 := by simp only [beq_eq_false_iff_ne, ne_eq] at h; omega
    have hple := pos_le s n
    refine ⟨pos s n, rfl, hple, Nat.le_refl _, _, rfl, ⟨hU.ext e1, ext_size hsm⟩, ?_⟩
    rintro ⟨r', m'⟩ w3 ⟨hr', hm', e3⟩
    dsimp only at hr' hm' ⊢
    obtain ⟨t1, t2⟩ := hA.test hr' hm' hn
    have E3 := e1.trans e3
    have hnb : ((n : Int) == 1) = (n == 1) := by
      rw [Bool.eq_iff_iff, beq_iff_eq, beq_iff_eq]; omega
    refine ⟨?_, ?_⟩
    · refine bcase_mk (fun h3 => ⟨_, rfl, hA.stop (t1 h3), E3⟩) (fun h3 => ?_)
      obtain ⟨hp, hr2, hm2, hgo⟩ := t2 h3
      clear t1 t2 h3 hr' hm'
      subst hr2
      have take : takesB (sg s 0) (sg s (n - 1)) (sg s n) n = true → goB s 0 n = true := fun h => by rw [hgo]; exact h
      have stop : takesB (sg s 0) (sg s (n - 1)) (sg s n) n = false → pos s n = nextL s := fun h => hA.stop (by rw [hgo]; exact h)
      refine ⟨sg s n, rfl, trivial, ?_⟩
      rintro _ w4 ⟨rfl, e4⟩
      rw [hnb]
      clear hgo hnb h
      have E := e4
      clear e4
      repeat' first
        | refine ⟨n, rfl, take ?_, E⟩
        | refine ⟨_, rfl, stop ?_, E3.trans E⟩
        | refine bcase_mk (fun h => ?_) (fun h => ?_)
        | (refine ⟨_, rfl, trivial, ?_⟩; rintro _ _ ⟨rfl, e⟩; replace E := E.trans e)
        | (refine ⟨(_, _), rfl, trivial, ?_⟩; rintro _ _ ⟨rfl, e⟩; replace E := E.trans e)
      all_goals (clear E take stop; first | (simp_all only [takesB, Bool.true_or, Bool.or_true, Bool.false_or, Bool.or_false, Bool.and_true, Bool.and_false, Bool.false_and, Bool.true_and, reduceCtorEq]; done) | (simp_all only [takesB, Bool.true_or, Bool.or_true, Bool.false_or, Bool.or_false, Bool.and_true, Bool.and_false, Bool.false_and, Bool.true_and, reduceCtorEq]; rename_i h; exact h))
    · rintro _ c w5 ⟨hc, hg, e5⟩
      have hc1 : c = n := by omega
      subst hc1
      have hN := hA.next hg
      have hp := cnt_lt.1 (show c < cnt s from hN.cnt)
      obtain ⟨x1, x2⟩ := nx_drop hp
      rw [x1] at hr'; rw [x2] at hm'
      have hdc := dcN_le hp
      have hps := pos_succ hp
      refine ⟨inr_i64 (by omega) (by omega), inr_i64 (by omega) (by omega), c + 1, rfl, by rw [hr']; rfl, by simp, ?_, ⟨hN.pos, hN.cnt, hN.most, hN.size, hN.go, E3.trans e5⟩, by omega⟩
      rw [hps, hm']; simp
  · rintro _ _ w1 ⟨hz, hs, e1⟩
    have hno : ∀ {w2 : World}, ¬ (crB s 0 = true) → pos s 1 = nextL s := by
      intro _ hcr
      rw [next_first hz]
      unfold firstN
      rcases hs with hs | hs
      · rw [if_pos hs]
      · split
        · rfl
        · simp only [if_neg hcr, if_pos hs]
    refine bcase_mk (fun h => ?_) (fun h => ⟨_, rfl, hno (w2 := w) ?_, e1⟩)
    · have h13 : sg s 0 = 13 := by simpa using h
      obtain ⟨c1, c2, c3⟩ := cr_is hz h13
      have hnb : ¬ isBad s 0 = true := by
        unfold isBad
        simp only [decide_eq_true_eq]
        unfold sg at h13
        omega
      refine bcase_mk (fun h1 => ?_) (fun h1 => ⟨_, rfl, hno (w2 := w) ?_, e1⟩)
      · have h1 := of_decide_eq_true h1
        refine ⟨1, rfl, by omega, bcase_mk (fun h2 => ⟨2, rfl, ?_, e1⟩) (fun h2 => ⟨_, rfl, hno (w2 := w) ?_, e1⟩)⟩
        · have hb : bt s 1 = 10 := by simp only [beq_iff_eq] at h2; unfold bt; omega
          have hcr := c2.2 ⟨by omega, hb⟩
          rw [next_first hz]
          unfold firstN
          rw [if_neg hnb, if_pos hcr, c3 hcr]
        · intro hcr
          have := (c2.1 hcr).2
          simp only [beq_eq_false_iff_ne, ne_eq] at h2
          unfold bt at this
          omega
      · have h1 := of_decide_eq_false h1
        intro hcr
        have := (c2.1 hcr).1
        omega
    · intro hcr
      unfold crB at hcr
      rw [h] at hcr
      cases hcr

end Go.Proofs.YthpjkgoahneldaaDoor
end

section
/-
  Clusters in plain words, second part: a text cut at a border; a bad byte stands alone; a cluster by itself.
-/
namespace Go.Proofs.YthpjkgoahneldaaDoor
open Go Go.RowKit Vc Ut Tb Cl Orb

theorem ee {s : ByteArray} {a b c d : Nat} (h : a + d ≤ b) : (s.extract a b).extract c d = s.extract (a + c) (a + d) := by
  rw [ByteArray.extract_extract, Nat.min_eq_left h]
theorem pcl_at (s : ByteArray) (k : Nat) : (pcL s)[k]? = if k < ncl s then some (pcP s k) else none := by
  unfold pcL
  rw [List.getElem?_map]
  split
  · rename_i h; rw [List.getElem?_range h]; rfl
  · rename_i h; rw [List.getElem?_eq_none (by simp; omega)]; rfl
theorem pcL_take {s : ByteArray} {n : Nat} (hn : n ≤ ncl s) : (pcL s).take n = pcL (s.extract 0 (bp s n)) := by
  apply List.ext_getElem?
  intro k
  rw [pcl_at, ncl_take hn, List.getElem?_take]
  split
  · rename_i h
    rw [pcl_at, if_pos (by omega)]
    unfold pcP
    rw [bp_take hn (by omega), bp_take hn (by omega), ee (by have := bp_mono s (show k + 1 ≤ n by omega); omega), Nat.zero_add, Nat.zero_add]
  · rfl
def upBy (k : Nat) (p : Nat × ByteArray) : Nat × ByteArray := (p.1 + k, p.2)
theorem pcL_drop {s : ByteArray} {n : Nat} (hn : n ≤ ncl s) : (pcL s).drop n = (pcL (s.extract (bp s n) s.size)).map (upBy (bp s n)) := by
  apply List.ext_getElem?
  intro k
  have h1 := ncl_drop hn
  rw [List.getElem?_drop, List.getElem?_map, pcl_at, pcl_at]
  by_cases h : n + k < ncl s
  · rw [if_pos h, if_pos (by omega)]
    have h2 := bp_drop hn k
    have h3 := bp_drop hn (k + 1)
    have h4 := bp_le s (n + (k + 1))
    unfold pcP upBy
    simp only [Option.map_some]
    rw [ee (by omega), h2, show bp s n + bp (s.extract (bp s n) s.size) k = bp s (n + k) from by omega, show bp s n + bp (s.extract (bp s n) s.size) (k + 1) = bp s (n + k + 1) from by rw [Nat.add_assoc]; omega]
  · rw [if_neg h, if_neg (by omega)]; rfl
theorem pcR_rev (s : ByteArray) : pcR s = (pcL s).reverse := by
  apply List.ext_getElem?
  intro k
  by_cases h : k < ncl s
  · rw [List.getElem?_reverse (by simp [pcL]; omega)]
    rw [pcl_at, if_pos (by simp [pcL]; omega)]
    unfold pcR
    rw [List.getElem?_map, List.getElem?_range h]
    simp [pcL]
  · rw [List.getElem?_eq_none (by simp [pcR]; omega), List.getElem?_eq_none (by simp [pcL]; omega)]
theorem pcV_flat (s : ByteArray) : (List.range (ncl s)).flatMap (pcV s) = (pcL s).flatMap encPc := by
  unfold pcL
  rw [List.flatMap_map]
  rfl

/-! ### Bad bytes -/

theorem goN_mem {s : ByteArray} {k : Nat} : ∀ {f n m : Nat}, n ≤ m → m < goN s k f n → goB s k m = true
  | 0, n, m, h1, h2 => by simp only [goN] at h2; omega
  | f + 1, n, m, h1, h2 => by
    simp only [goN] at h2
    split at h2
    · rename_i hg
      by_cases he : m = n
      · subst he; exact hg
      · exact goN_mem (by omega) h2
    · omega
/-- A bad byte is a cluster by itself. -/
theorem bad_alone {s : ByteArray} {k m : Nat} (h : m < firstN s k) (hb : isBad s (k + m) = true) : m = 0 ∧ firstN s k = 1 := by
  by_cases h0 : isBad s k = true
  · have : firstN s k = 1 := by unfold firstN; rw [if_pos h0]
    omega
  · have hm : m ≠ 0 := by rintro rfl; exact h0 hb
    exfalso
    unfold firstN at h
    rw [if_neg h0] at h
    split at h
    · rename_i hc
      have hm1 : m = 1 := by omega
      subst hm1
      simp only [crB, Bool.and_eq_true, beq_iff_eq] at hc
      have h10 := hc.2.2
      unfold sg at h10
      simp only [isBad, decide_eq_true_eq] at hb
      omega
    · split at h
      · omega
      · have := goN_mem (show 1 ≤ m by omega) h
        simp only [goB, Bool.and_eq_true] at this
        rw [hb] at this
        simp at this
theorem decodeN_high (n b0 b1 b2 b3 : Nat) (h : 245 ≤ b0) (hn : 1 ≤ n) : Lib.decodeN n b0 b1 b2 b3 = (65533, 1) := by
  unfold Lib.decodeN
  repeat' split
  all_goals first | rfl | omega
/-- A byte that belongs to no character. -/
theorem high_bad {s : ByteArray} {q : Nat} (h : q < s.size) (hb : 245 ≤ bt s q) : ∃ n, n < cnt s ∧ pos s n = q ∧ isBad s n = true := by
  obtain ⟨n, h1, h2⟩ := pos_lead h (by unfold cont; have := bt_lt s q; omega)
  refine ⟨n, h1, h2, ?_⟩
  unfold isBad dcN dcR
  rw [h2, dc_eq, decodeN_high _ _ _ _ _ hb (by omega)]
  rfl
theorem high_border {s : ByteArray} {q : Nat} (h : q < s.size) (hb : 245 ≤ bt s q) : ∃ i, i < ncl s ∧ bp s i = q ∧ bp s (i + 1) = q + 1 := by
  obtain ⟨k, h1, h2, h3⟩ := high_bad h hb
  obtain ⟨i, g1, g2, g3⟩ := orb_cover (first_fit s) h1
  have g1' : i < ncl s := g1
  have g2' : bk s i ≤ k := g2
  have g3' : k < bk s (i + 1) := g3
  rw [bk_succ g1'] at g3'
  obtain ⟨e1, e2⟩ := bad_alone (s := s) (k := bk s i) (m := k - bk s i) (by omega) (by rw [show bk s i + (k - bk s i) = k from by omega]; exact h3)
  have hk : bk s i = k := by omega
  refine ⟨i, g1', by unfold bp; rw [hk, h2], ?_⟩
  unfold bp
  rw [bk_succ g1', e2, hk, pos_succ (by rw [h2]; exact h), h2]
  simp only [isBad, decide_eq_true_eq] at h3
  rw [h2] at h3
  rw [h3.1]

/-! ### A cluster by itself -/

theorem pc_own {s : ByteArray} {i : Nat} (hi : i < ncl s) : ∃ t, (pcP s i).2 = t.extract 0 (bp t 1) ∧ 1 ≤ ncl t ∧ 0 < cnt t := by
  have h1 := ncl_drop (s := s) (k := i) (by omega)
  have h2 := bp_drop (s := s) (k := i) (by omega) 1
  have h3 := bp_le s (i + 1)
  refine ⟨s.extract (bp s i) s.size, ?_, by omega, ?_⟩
  · unfold pcP
    rw [ee (by omega), show bp s i + bp (s.extract (bp s i) s.size) 1 = bp s (i + 1) from by omega]
    rfl
  · have := (bk_lt (s := s.extract (bp s i) s.size) (i := 0)).1 (by omega)
    omega
theorem own_laws {t : ByteArray} (h1 : 1 ≤ ncl t) (h0 : 0 < cnt t) : ncl (t.extract 0 (bp t 1)) = 1 ∧ bp (t.extract 0 (bp t 1)) 1 = (t.extract 0 (bp t 1)).size ∧
    1 ≤ cnt (t.extract 0 (bp t 1)) ∧ cnt (t.extract 0 (bp t 1)) ≤ 32 ∧ (badL (t.extract 0 (bp t 1)) ≠ [] → (t.extract 0 (bp t 1)).size = 1) := by
  have hf := first_fit t 0 h0
  have hk : bk t 1 = firstN t 0 := by
    have := bk_succ (s := t) (i := 0) (by omega)
    rw [show bk t 0 = 0 from rfl] at this
    simpa using this
  refine ⟨ncl_take h1, ?_, ?_, ?_, ?_⟩
  · rw [bp_take h1 (by omega), size_ext (bp_le t 1)]; omega
  · rw [cnt_cut, hk]; omega
  · rw [cnt_cut, hk]; exact first_le t h0
  · intro hb
    have hc := cnt_cut (s := t) 1
    obtain ⟨p, hp⟩ := List.exists_mem_of_ne_nil _ hb
    unfold badL at hp
    obtain ⟨n, hn, _⟩ := List.mem_map.1 hp
    obtain ⟨hn1, hn2⟩ := List.mem_filter.1 hn
    rw [List.mem_range, hc] at hn1
    have hb2 : isBad t n = true := by
      have := bad_take (s := t) hn1 (bk_le t 1)
      rw [← this]; exact hn2
    have := bad_alone (s := t) (k := 0) (m := n) (by omega) (by simpa using hb2)
    have hn0 : n = 0 := this.1
    subst hn0
    rw [size_ext (bp_le t 1)]
    unfold bp
    rw [hk, this.2, pos_succ (n := 0) (cnt_lt.1 h0)]
    simp only [isBad, decide_eq_true_eq] at hb2
    rw [hb2.1]; rfl

/-! ### Places -/

theorem at_in {s : ByteArray} {i q : Nat} (hi : i < ncl s) (h1 : bp s i ≤ q) (h2 : q < bp s (i + 1)) : ixP s (clampN s (q : Int)) = i := by
  have hc : clampN s (q : Int) = q := by
    have := bp_le s (i + 1)
    unfold clampN
    rw [if_neg (by omega), if_neg (by omega)]; rfl
  rw [hc]
  unfold ixP
  rw [List.find?_range_eq_some.2 ⟨by simpa using h2, by simpa using hi, fun j hj => by have := bp_mono s (show j + 1 ≤ i by omega); simp; omega⟩]
  rfl
theorem at_end {s : ByteArray} {p : Int} (h : (s.size : Int) ≤ p) : ixP s (clampN s p) = ncl s := by
  have hc : clampN s p = s.size := by
    unfold clampN
    rw [if_neg (by omega)]
    split
    · rfl
    · omega
  rw [hc]
  unfold ixP
  rw [List.find?_eq_none.2 (fun j hj => by have := bp_le s (j + 1); simp; omega)]
  rfl

end Go.Proofs.YthpjkgoahneldaaDoor
end

section
/-
  Runes as a text and back: what is laid is decoded again; a valid text is laid again as it was.
-/
namespace Go.Proofs.YthpjkgoahneldaaDoor.Ut
open Go Vc

def okC (c : Nat) : Prop := c < 55296 ∨ 57344 ≤ c ∧ c ≤ 1114111
theorem encC_ok (r : Int) : okC (encC r) := by unfold okC encC; split <;> omega
theorem encC_same {r : Int} (h : 0 ≤ r) (hr : okC r.toNat) : (encC r : Int) = r := by
  unfold okC at hr; unfold encC; rw [if_pos (by omega)]; omega

theorem dec_enc {s : ByteArray} {i c : Nat} (hc : okC c) (hb : ∀ j, j < (encN c).length → bt s (i + j) = (encN c).getD j 0) (hl : i + (encN c).length ≤ s.size) : Utf8.decode s i = (c, (encN c).length) := by
  unfold okC at hc
  rw [dc_eq]
  have hb0 := hb 0; have hb1 := hb 1; have hb2 := hb 2; have hb3 := hb 3
  rw [Nat.add_zero] at hb0
  clear hb
  unfold Lib.decodeN
  by_cases h1 : c < 128
  · have e : encN c = [c] := by unfold encN; rw [if_pos h1]
    rw [e] at hb0 ⊢
    have b0 := hb0 (by simp)
    simp only [List.getD_cons_zero] at b0
    rw [b0, if_pos h1]; rfl
  by_cases h2 : c < 2048
  · have e : encN c = [192 + c / 64, 128 + c % 64] := by unfold encN; rw [if_neg h1, if_pos h2]
    rw [e] at hb0 hb1 hl ⊢
    have b0 := hb0 (by simp); have b1 := hb1 (by simp)
    simp only [List.getD_cons_zero, List.getD_cons_succ, List.length_cons, List.length_nil] at b0 b1 hl
    rw [b0, b1, if_neg (by omega), if_pos ⟨by omega, by omega, by omega⟩, if_pos (by omega)]
    refine Prod.ext ?_ rfl
    dsimp only
    clear hb0 hb1 hb2 hb3 hl e
    omega
  by_cases h3 : c < 65536
  · have e : encN c = [224 + c / 4096, 128 + c / 64 % 64, 128 + c % 64] := by unfold encN; rw [if_neg h1, if_neg h2, if_pos h3]
    rw [e] at hb0 hb1 hb2 hl ⊢
    have b0 := hb0 (by simp); have b1 := hb1 (by simp); have b2 := hb2 (by simp)
    simp only [List.getD_cons_zero, List.getD_cons_succ, List.length_cons, List.length_nil] at b0 b1 b2 hl
    rw [b0, b1, b2, if_neg (by omega), if_neg (by omega), if_pos ⟨by omega, ⟨by omega, by omega⟩, by omega, by omega⟩, if_pos (by omega)]
    refine Prod.ext ?_ rfl
    dsimp only
    clear hb0 hb1 hb2 hb3 hl e
    omega
  · have e : encN c = [240 + c / 262144, 128 + c / 4096 % 64, 128 + c / 64 % 64, 128 + c % 64] := by unfold encN; rw [if_neg h1, if_neg h2, if_neg h3]
    rw [e] at hb0 hb1 hb2 hb3 hl ⊢
    have b0 := hb0 (by simp); have b1 := hb1 (by simp); have b2 := hb2 (by simp); have b3 := hb3 (by simp)
    simp only [List.getD_cons_zero, List.getD_cons_succ, List.length_cons, List.length_nil] at b0 b1 b2 b3 hl
    rw [b0, b1, b2, b3, if_neg (by omega), if_neg (by omega), if_neg (by omega), if_pos ⟨by omega, ⟨by omega, by omega⟩, ⟨by omega, by omega⟩, by omega, by omega⟩]
    have k2 : c / 64 / 64 = c / 4096 := by omega
    have k3 : c / 4096 / 64 = c / 262144 := by omega
    clear hb0 hb1 hb2 hb3 hl e b0 b1 b2 b3
    have k : (240 + c / 262144) % 8 * 262144 + (128 + c / 4096 % 64) % 64 * 4096 + (128 + c / 64 % 64) % 64 * 64 + (128 + c % 64) % 64 = c := by omega
    rw [k, if_pos (by omega)]; rfl

/-- A number that was decoded is one that is laid. -/
theorem dcR_ok (s : ByteArray) (i : Nat) : okC (dcR s i).toNat := by
  unfold okC dcR
  rw [dc_eq]
  have h0 := bt_lt s i; have h1 := bt_lt s (i + 1); have h2 := bt_lt s (i + 2)
  unfold Lib.decodeN
  repeat' split
  all_goals simp only [Int.toNat_natCast]
  all_goals omega

def encF (xs : List Int) : List Nat := xs.flatMap fun r => encN (encC r)
theorem encF_bt (xs : List Int) (j : Nat) : bt (runesBytes xs) j = (encF xs).getD j 0 := by
  by_cases h : j < (xs.flatMap encL).length
  · have := runesBytes_bt xs j h
    unfold bt
    rw [this, flat_encL]
    rw [flat_encL, List.length_map] at h
    simp only [encF, List.getD_eq_getElem?_getD, List.getElem?_map, List.getElem?_eq_getElem h, Option.map_some, Option.getD_some, Int.toNat_natCast]
  · rw [bt_out (by rw [runesBytes_size]; omega)]
    rw [flat_encL, List.length_map] at h
    simp only [encF, List.getD_eq_getElem?_getD, List.getElem?_eq_none (Nat.le_of_not_lt h)]; rfl
theorem encF_size (xs : List Int) : (runesBytes xs).size = (encF xs).length := by
  rw [runesBytes_size, flat_encL, List.length_map]; rfl
theorem encF_take {xs : List Int} {n : Nat} (h : n < xs.length) : ∃ r, encF xs = encF (xs.take n) ++ (encN (encC (xs.getD n 0)) ++ r) ∧ encF (xs.take (n + 1)) = encF (xs.take n) ++ encN (encC (xs.getD n 0)) := by
  have e1 : xs.take (n + 1) = xs.take n ++ [xs.getD n 0] := by
    rw [List.take_add_one, List.getD_eq_getElem?_getD, List.getElem?_eq_getElem h]; rfl
  have e2 : encF (xs.take (n + 1)) = encF (xs.take n) ++ encN (encC (xs.getD n 0)) := by rw [e1]; unfold encF; rw [List.flatMap_append]; simp
  refine ⟨encF (xs.drop (n + 1)), ?_, e2⟩
  rw [← List.append_assoc, ← e2]
  unfold encF
  rw [← List.flatMap_append, List.take_append_drop]

theorem text_pos (xs : List Int) : ∀ n, n ≤ xs.length → pos (runesBytes xs) n = (encF (xs.take n)).length ∧ (n < xs.length → Utf8.decode (runesBytes xs) (pos (runesBytes xs) n) = (encC (xs.getD n 0), (encN (encC (xs.getD n 0))).length) ∧ pos (runesBytes xs) n < (runesBytes xs).size) := by
  have step : ∀ n, n < xs.length → pos (runesBytes xs) n = (encF (xs.take n)).length → Utf8.decode (runesBytes xs) (pos (runesBytes xs) n) = (encC (xs.getD n 0), (encN (encC (xs.getD n 0))).length) ∧ pos (runesBytes xs) n < (runesBytes xs).size := by
    intro n hn hp
    obtain ⟨r, hr, _⟩ := encF_take hn
    have hlen := encN_len (encC (xs.getD n 0))
    have hsz : (encF xs).length = (encF (xs.take n)).length + ((encN (encC (xs.getD n 0))).length + r.length) := by rw [hr, List.length_append, List.length_append]
    refine ⟨dec_enc (encC_ok _) (fun j hj => ?_) ?_, ?_⟩
    · rw [encF_bt, hp, hr, List.getD_eq_getElem?_getD, List.getElem?_append_right (by omega), Nat.add_sub_cancel_left, List.getElem?_append_left hj, ← List.getD_eq_getElem?_getD]
    · rw [encF_size, hp]; omega
    · rw [encF_size, hp]; omega
  intro n
  induction n with
  | zero => intro _; exact ⟨by simp [pos, encF], fun h => step 0 h (by simp [pos, encF])⟩
  | succ n ih =>
    intro hn
    obtain ⟨h1, h2⟩ := ih (by omega)
    obtain ⟨h3, h4⟩ := h2 (by omega)
    obtain ⟨r, _, hr⟩ := encF_take (show n < xs.length by omega)
    have h5 : pos (runesBytes xs) (n + 1) = (encF (xs.take (n + 1))).length := by
      rw [pos_succ h4]
      unfold dcN
      rw [h3, h1, hr, List.length_append]
    exact ⟨h5, fun h => step (n + 1) h h5⟩
theorem text_cnt (xs : List Int) : cnt (runesBytes xs) = xs.length := by
  have h1 := (text_pos xs xs.length (Nat.le_refl _)).1
  rw [List.take_length, ← encF_size] at h1
  have h2 : ¬ xs.length < cnt (runesBytes xs) := fun h => by have := cnt_lt.1 h; omega
  by_cases h3 : cnt (runesBytes xs) < xs.length
  · have := ((text_pos xs _ (by omega)).2 h3).2
    rw [pos_cnt] at this; omega
  · omega
theorem text_dc {xs : List Int} {n : Nat} (h : n < xs.length) : dcR (runesBytes xs) (pos (runesBytes xs) n) = (encC (xs.getD n 0) : Int) ∧ dcN (runesBytes xs) (pos (runesBytes xs) n) = (encN (encC (xs.getD n 0))).length := by
  have := ((text_pos xs n (by omega)).2 h).1
  unfold dcR dcN; rw [this]; exact ⟨rfl, rfl⟩
theorem text_runes (xs : List Int) : runes (runesBytes xs) = xs.map fun r => (encC r : Int) := by
  apply List.ext_getElem?
  intro n
  by_cases h : n < xs.length
  · have := text_dc h
    simp only [runes, List.getElem?_map, List.getElem?_range (show n < cnt (runesBytes xs) by rw [text_cnt]; exact h), List.getElem?_eq_getElem h, Option.map_some]
    rw [this.1, List.getD_eq_getElem?_getD, List.getElem?_eq_getElem h]; rfl
  · rw [List.getElem?_eq_none (by rw [runes_len, text_cnt]; omega), List.getElem?_eq_none (by rw [List.length_map]; omega)]
theorem encN_one {c : Nat} (h : (encN c).length = 1) : c < 128 := by
  unfold encN at h
  by_cases h1 : c < 128
  · exact h1
  · rw [if_neg h1] at h
    repeat' split at h
    all_goals simp at h
theorem text_valid (xs : List Int) : validB (runesBytes xs) = true := by
  unfold validB
  rw [List.all_eq_true]
  intro n hn
  rw [List.mem_range, text_cnt] at hn
  have := text_dc hn
  unfold isBad
  rw [this.1, this.2]
  simp only [Bool.not_eq_true', decide_eq_false_iff_not]
  rintro ⟨h1, h2⟩
  have := encN_one h1; omega

/-- The bytes of a number that is no bad byte. -/
theorem enc_dec {s : ByteArray} {i : Nat} (hi : i < s.size) (hb : ¬ (dcN s i = 1 ∧ dcR s i = 65533)) : (encN (dcR s i).toNat).length = dcN s i ∧ ∀ j, j < dcN s i → bt s (i + j) = (encN (dcR s i).toNat).getD j 0 := by
  unfold dcR dcN at *
  rw [dc_eq] at *
  have h0 := bt_lt s i; have h1 := bt_lt s (i + 1); have h2 := bt_lt s (i + 2); have h3 := bt_lt s (i + 3)
  generalize e0 : bt s i = b0 at *
  generalize e1 : bt s (i + 1) = b1 at *
  generalize e2 : bt s (i + 2) = b2 at *
  generalize e3 : bt s (i + 3) = b3 at *
  generalize s.size - i = n at *
  unfold Lib.decodeN at *
  by_cases k1 : b0 < 128
  · rw [if_pos k1] at *
    simp only [Int.toNat_natCast]
    have e : encN b0 = [b0] := by unfold encN; rw [if_pos k1]
    rw [e]
    refine ⟨rfl, fun j hj => ?_⟩
    obtain rfl : j = 0 := by omega
    rw [Nat.add_zero]; exact e0
  rw [if_neg k1] at *
  by_cases k2 : b0 / 32 = 6 ∧ (1 < n ∧ b1 / 64 = 2)
  · rw [if_pos k2] at *
    by_cases k3 : b0 % 32 * 64 + b1 % 64 ≥ 128
    · rw [if_pos k3] at *
      simp only [Int.toNat_natCast]
      have e : encN (b0 % 32 * 64 + b1 % 64) = [b0, b1] := by
        unfold encN; rw [if_neg (by omega), if_pos (by omega)]
        congr 1
        · omega
        · congr 1; omega
      rw [e]
      refine ⟨rfl, fun j hj => ?_⟩
      have : j = 0 ∨ j = 1 := by omega
      rcases this with rfl | rfl
      · rw [Nat.add_zero]; exact e0
      · exact e1
    · rw [if_neg k3] at hb; exact absurd ⟨rfl, rfl⟩ hb
  rw [if_neg k2] at *
  by_cases k4 : b0 / 16 = 14 ∧ (1 < n ∧ b1 / 64 = 2) ∧ (2 < n ∧ b2 / 64 = 2)
  · rw [if_pos k4] at *
    by_cases k5 : b0 % 16 * 4096 + b1 % 64 * 64 + b2 % 64 ≥ 2048 ∧ (b0 % 16 * 4096 + b1 % 64 * 64 + b2 % 64 < 55296 ∨ (57344 ≤ b0 % 16 * 4096 + b1 % 64 * 64 + b2 % 64 ∧ b0 % 16 * 4096 + b1 % 64 * 64 + b2 % 64 ≤ 1114111))
    · rw [if_pos k5] at *
      simp only [Int.toNat_natCast]
      have e : encN (b0 % 16 * 4096 + b1 % 64 * 64 + b2 % 64) = [b0, b1, b2] := by
        unfold encN; rw [if_neg (by omega), if_neg (by omega), if_pos (by omega)]
        congr 1
        · omega
        · congr 1
          · omega
          · congr 1; omega
      rw [e]
      refine ⟨rfl, fun j hj => ?_⟩
      have : j = 0 ∨ j = 1 ∨ j = 2 := by omega
      rcases this with rfl | rfl | rfl
      · rw [Nat.add_zero]; exact e0
      · exact e1
      · exact e2
    · rw [if_neg k5] at hb; exact absurd ⟨rfl, rfl⟩ hb
  rw [if_neg k4] at *
  by_cases k6 : b0 / 8 = 30 ∧ (1 < n ∧ b1 / 64 = 2) ∧ (2 < n ∧ b2 / 64 = 2) ∧ (3 < n ∧ b3 / 64 = 2)
  · rw [if_pos k6] at *
    by_cases k7 : b0 % 8 * 262144 + b1 % 64 * 4096 + b2 % 64 * 64 + b3 % 64 ≥ 65536 ∧ (b0 % 8 * 262144 + b1 % 64 * 4096 + b2 % 64 * 64 + b3 % 64 < 55296 ∨ (57344 ≤ b0 % 8 * 262144 + b1 % 64 * 4096 + b2 % 64 * 64 + b3 % 64 ∧ b0 % 8 * 262144 + b1 % 64 * 4096 + b2 % 64 * 64 + b3 % 64 ≤ 1114111))
    · rw [if_pos k7] at *
      simp only [Int.toNat_natCast]
      have e : encN (b0 % 8 * 262144 + b1 % 64 * 4096 + b2 % 64 * 64 + b3 % 64) = [b0, b1, b2, b3] := by
        unfold encN; rw [if_neg (by omega), if_neg (by omega), if_neg (by omega)]
        congr 1
        · omega
        · congr 1
          · omega
          · congr 1
            · omega
            · congr 1; omega
      rw [e]
      refine ⟨rfl, fun j hj => ?_⟩
      have : j = 0 ∨ j = 1 ∨ j = 2 ∨ j = 3 := by omega
      rcases this with rfl | rfl | rfl | rfl
      · rw [Nat.add_zero]; exact e0
      · exact e1
      · exact e2
      · exact e3
    · rw [if_neg k7] at hb; exact absurd ⟨rfl, rfl⟩ hb
  · rw [if_neg k6] at hb; exact absurd ⟨rfl, rfl⟩ hb

/-- A valid text is laid again as it was. -/
theorem valid_text {s : ByteArray} (h : validB s = true) : runesBytes (runes s) = s := by
  have hv : ∀ n, n < cnt s → isBad s n = false := by
    unfold validB at h
    rw [List.all_eq_true] at h
    intro n hn
    simpa using h n (by simpa using hn)
  have key : ∀ n, n ≤ cnt s → (encF ((runes s).take n)).length = pos s n ∧ ∀ j, j < pos s n → bt s j = (encF ((runes s).take n)).getD j 0 := by
    intro n
    induction n with
    | zero => intro _; exact ⟨by simp [encF, pos], fun j hj => by simp [pos] at hj⟩
    | succ n ih =>
      intro hn
      obtain ⟨h1, h2⟩ := ih (by omega)
      have hp := cnt_lt.1 (show n < cnt s by omega)
      have hnb := hv n (by omega)
      unfold isBad at hnb
      simp only [decide_eq_false_iff_not] at hnb
      obtain ⟨h3, h4⟩ := enc_dec hp hnb
      obtain ⟨r, _, hr⟩ := encF_take (xs := runes s) (show n < (runes s).length by rw [runes_len]; omega)
      have hc : encC ((runes s).getD n 0) = (dcR s (pos s n)).toNat := by
        rw [runes_at (by omega)]
        have := encC_same (dcR_nonneg s (pos s n)) (dcR_ok s (pos s n))
        omega
      rw [hc] at hr
      have h5 : (encF ((runes s).take (n + 1))).length = pos s (n + 1) := by rw [hr, List.length_append, h1, h3, pos_succ hp]
      refine ⟨h5, fun j hj => ?_⟩
      rw [hr, List.getD_eq_getElem?_getD]
      by_cases hjp : j < pos s n
      · rw [List.getElem?_append_left (by omega), ← List.getD_eq_getElem?_getD]; exact h2 j hjp
      · rw [List.getElem?_append_right (by omega), h1, ← List.getD_eq_getElem?_getD]
        rw [pos_succ hp] at hj
        have := h4 (j - pos s n) (by omega)
        rwa [show pos s n + (j - pos s n) = j from by omega] at this
  obtain ⟨h1, h2⟩ := key (cnt s) (Nat.le_refl _)
  rw [pos_cnt, List.take_of_length_le (by rw [runes_len]; exact Nat.le_refl _)] at h1 h2
  apply ByteArray.ext
  apply Array.ext'
  apply List.ext_getElem?
  intro j
  have hs1 := size_list s
  have hs2 := size_list (runesBytes (runes s))
  rw [encF_size] at hs2
  by_cases hj : j < s.size
  · have := (h2 j hj).trans (encF_bt (runes s) j).symm
    unfold bt at this
    rw [List.getD_eq_getElem?_getD, List.getD_eq_getElem?_getD, List.getElem?_eq_getElem (by omega), List.getElem?_eq_getElem (by omega)] at this
    simp only [Option.getD_some] at this
    rw [List.getElem?_eq_getElem (by omega), List.getElem?_eq_getElem (by omega)]
    congr 1
    exact (UInt8.toNat_inj.1 this).symm
  · rw [List.getElem?_eq_none (by omega), List.getElem?_eq_none (by omega)]

end Go.Proofs.YthpjkgoahneldaaDoor.Ut
end
