/-
  Verification conditions, printed by a program out of the specifications beside this text: each theorem says that the condition suffices. (Lean's kernel compares the printed condition with what 'wpE' computes.)
-/
import Derived.Test.YtlklgngdagebfaaSpD
import Derived.Test.YtlklgngdagebfaaProg
import Derived.KernelRfl
set_option linter.unusedVariables false
namespace Go.Proofs.Ytlklgngdagebfaa
open Go Go.RowKit Vc Tb

set_option maxRecDepth 1000000 in
theorem lawKnown_vc (hsp : SpecsOk Try.prog spKnown2) (h : ∀ (g : Unit) (w : World),
True →
(∃ (g1 : Int),
#[Value.int IntKind.i32 (65 : Int)] = #[Value.int IntKind.i32 g1] ∧
True ∧
∀ (x : Int) (w' : World),
x = kindR g1 ∧ Ext w w' →
bcase (x == (3 : Int))
(∃ (g2 : Int),
#[Value.int IntKind.i32 (0 : Int)] = #[Value.int IntKind.i32 g2] ∧
True ∧
∀ (x1 : Int) (w'1 : World),
x1 = kindR g2 ∧ Ext w' w'1 →
bcase (x1 == (0 : Int))
(∃ (g3 : Int),
#[Value.int IntKind.i32 (769 : Int)] = #[Value.int IntKind.i32 g3] ∧
True ∧
∀ (x2 : Int) (w'2 : World),
x2 = kindR g3 ∧ Ext w'1 w'2 →
bcase (x2 == (2 : Int))
(∃ (g4 : Int),
#[Value.int IntKind.i32 (-1 : Int)] = #[Value.int IntKind.i32 g4] ∧
True ∧
∀ (x3 : Int) (w'3 : World),
x3 = kindR g4 ∧ Ext w'2 w'3 →
bcase (x3 == (7 : Int))
(∃ (g5 : Int),
#[Value.int IntKind.i32 (55296 : Int)] = #[Value.int IntKind.i32 g5] ∧
True ∧
∀ (x4 : Int) (w'4 : World),
x4 = kindR g5 ∧ Ext w'3 w'4 →
bcase (x4 == (7 : Int))
(∃ (g6 : Int),
#[Value.int IntKind.i32 (1114112 : Int)] = #[Value.int IntKind.i32 g6] ∧
True ∧
∀ (x5 : Int) (w'5 : World),
x5 = kindR g6 ∧ Ext w'4 w'5 → ∃ (c : Unit), Value.bool (x5 == (7 : Int)) = Value.bool true ∧ Ext w w'5)
(∃ (c : Unit), Value.bool false = Value.bool true ∧ Ext w w'4))
(∃ (c : Unit), Value.bool false = Value.bool true ∧ Ext w w'3))
(∃ (c : Unit), Value.bool false = Value.bool true ∧ Ext w w'2))
(∃ (c : Unit), Value.bool false = Value.bool true ∧ Ext w w'1))
(∃ (c : Unit), Value.bool false = Value.bool true ∧ Ext w w')) ∧
∀ (u : Nat → Value) (c : Unit) (w' : World),
Ext w w' →
(∃ (g1 : Int),
#[Value.int IntKind.i32 (65 : Int)] = #[Value.int IntKind.i32 g1] ∧
True ∧
∀ (x : Int) (w'1 : World),
x = dirR g1 ∧ Ext w' w'1 →
bcase (x == (0 : Int))
(∃ (g2 : Int),
#[Value.int IntKind.i32 (1575 : Int)] = #[Value.int IntKind.i32 g2] ∧
True ∧
∀ (x1 : Int) (w'2 : World),
x1 = dirR g2 ∧ Ext w'1 w'2 →
bcase (x1 == (2 : Int))
(∃ (g3 : Int),
#[Value.int IntKind.i32 (51 : Int)] = #[Value.int IntKind.i32 g3] ∧
True ∧
∀ (x2 : Int) (w'3 : World),
x2 = dirR g3 ∧ Ext w'2 w'3 →
bcase (x2 == (3 : Int))
(∃ (g4 : Int),
#[Value.int IntKind.i32 (1635 : Int)] = #[Value.int IntKind.i32 g4] ∧
True ∧
∀ (x3 : Int) (w'4 : World),
x3 = dirR g4 ∧ Ext w'3 w'4 →
bcase (x3 == (6 : Int))
(∃ (g5 : Int),
#[Value.int IntKind.i32 (46 : Int)] = #[Value.int IntKind.i32 g5] ∧
True ∧
∀ (x4 : Int) (w'5 : World),
x4 = dirR g5 ∧ Ext w'4 w'5 →
bcase (x4 == (7 : Int))
(∃ (g6 : Int),
#[Value.int IntKind.i32 (40 : Int)] = #[Value.int IntKind.i32 g6] ∧
True ∧
∀ (x5 : Int) (w'6 : World),
x5 = dirR g6 ∧ Ext w'5 w'6 →
bcase (x5 == (13 : Int))
(∃ (g7 : Int),
#[Value.int IntKind.i32 (8295 : Int)] = #[Value.int IntKind.i32 g7] ∧
True ∧
∀ (x6 : Int) (w'7 : World),
x6 = dirR g7 ∧ Ext w'6 w'7 → ∃ (c1 : Unit), Value.bool (x6 == (20 : Int)) = Value.bool true ∧ Ext w' w'7)
(∃ (c1 : Unit), Value.bool false = Value.bool true ∧ Ext w' w'6))
(∃ (c1 : Unit), Value.bool false = Value.bool true ∧ Ext w' w'5))
(∃ (c1 : Unit), Value.bool false = Value.bool true ∧ Ext w' w'4))
(∃ (c1 : Unit), Value.bool false = Value.bool true ∧ Ext w' w'3))
(∃ (c1 : Unit), Value.bool false = Value.bool true ∧ Ext w' w'2))
(∃ (c1 : Unit), Value.bool false = Value.bool true ∧ Ext w' w'1)) ∧
∀ (u1 : Nat → Value) (c1 : Unit) (w'1 : World),
Ext w' w'1 →
(∃ (g1 : Int × Bool),
#[Value.int IntKind.i32 (65 : Int), Value.bool true] = #[Value.int IntKind.i32 g1.fst, Value.bool g1.snd] ∧
True ∧
∀ (x : Int) (w'2 : World),
x = wideR g1.fst g1.snd ∧ Ext w'1 w'2 →
bcase (x == (1 : Int))
(∃ (g2 : Int × Bool),
#[Value.int IntKind.i32 (945 : Int), Value.bool false] = #[Value.int IntKind.i32 g2.fst, Value.bool g2.snd] ∧
True ∧
∀ (x1 : Int) (w'3 : World),
x1 = wideR g2.fst g2.snd ∧ Ext w'2 w'3 →
bcase (x1 == (1 : Int))
(∃ (g3 : Int × Bool),
#[Value.int IntKind.i32 (945 : Int), Value.bool true] = #[Value.int IntKind.i32 g3.fst, Value.bool g3.snd] ∧
True ∧
∀ (x2 : Int) (w'4 : World),
x2 = wideR g3.fst g3.snd ∧ Ext w'3 w'4 →
bcase (x2 == (2 : Int))
(∃ (g4 : Int × Bool),
#[Value.int IntKind.i32 (769 : Int), Value.bool true] = #[Value.int IntKind.i32 g4.fst, Value.bool g4.snd] ∧
True ∧
∀ (x3 : Int) (w'5 : World),
x3 = wideR g4.fst g4.snd ∧ Ext w'4 w'5 →
bcase (x3 == (0 : Int))
(∃ (g5 : Int × Bool),
#[Value.int IntKind.i32 (57344 : Int), Value.bool true] = #[Value.int IntKind.i32 g5.fst, Value.bool g5.snd] ∧
True ∧
∀ (x4 : Int) (w'6 : World),
x4 = wideR g5.fst g5.snd ∧ Ext w'5 w'6 →
bcase (x4 == (2 : Int))
(∃ (g6 : Int × Bool),
#[Value.int IntKind.i32 (-7 : Int), Value.bool true] = #[Value.int IntKind.i32 g6.fst, Value.bool g6.snd] ∧
True ∧
∀ (x5 : Int) (w'7 : World),
x5 = wideR g6.fst g6.snd ∧ Ext w'6 w'7 → ∃ (c2 : Unit), Value.bool (x5 == (1 : Int)) = Value.bool true ∧ Ext w'1 w'7)
(∃ (c2 : Unit), Value.bool false = Value.bool true ∧ Ext w'1 w'6))
(∃ (c2 : Unit), Value.bool false = Value.bool true ∧ Ext w'1 w'5))
(∃ (c2 : Unit), Value.bool false = Value.bool true ∧ Ext w'1 w'4))
(∃ (c2 : Unit), Value.bool false = Value.bool true ∧ Ext w'1 w'3))
(∃ (c2 : Unit), Value.bool false = Value.bool true ∧ Ext w'1 w'2)) ∧
∀ (u2 : Nat → Value) (c2 : Unit) (w'2 : World),
Ext w'1 w'2 →
∃ (g1 : Int),
#[Value.int IntKind.i32 (60 : Int)] = #[Value.int IntKind.i32 g1] ∧
True ∧
∀ (x : Int × Bool × Bool) (w'3 : World),
x = pairF g1 ∧ Ext w'2 w'3 →
(∃ (g2 : Int),
#[Value.int IntKind.i32 (803 : Int)] = #[Value.int IntKind.i32 g2] ∧
True ∧
∀ (x1 : Int) (w'4 : World),
x1 = markR g2 ∧ Ext w'3 w'4 →
bcase (x1 == (220 : Int))
(∃ (g3 : Int),
#[Value.int IntKind.i32 (1468 : Int)] = #[Value.int IntKind.i32 g3] ∧
True ∧
∀ (x2 : Int) (w'5 : World),
x2 = markR g3 ∧ Ext w'4 w'5 →
bcase (x2 == (21 : Int))
(∃ (g4 : Int),
#[Value.int IntKind.i32 (65 : Int)] = #[Value.int IntKind.i32 g4] ∧
True ∧
∀ (x3 : Int) (w'6 : World),
x3 = markR g4 ∧ Ext w'5 w'6 →
bcase (x3 == (0 : Int))
(∃ (g5 : Int),
#[Value.int IntKind.i32 (1611 : Int)] = #[Value.int IntKind.i32 g5] ∧
True ∧
∀ (x4 : Int) (w'7 : World),
x4 = joinR g5 ∧ Ext w'6 w'7 →
bcase (x4 == (4 : Int))
(∃ (g6 : Int),
#[Value.int IntKind.i32 (8204 : Int)] = #[Value.int IntKind.i32 g6] ∧
True ∧
∀ (x5 : Int) (w'8 : World),
x5 = joinR g6 ∧ Ext w'7 w'8 →
bcase (x5 == (0 : Int))
(∃ (g7 : Int),
#[Value.int IntKind.i32 (7 : Int)] = #[Value.int IntKind.i32 g7] ∧
True ∧
∀ (x6 : Int) (w'9 : World),
x6 = brkR g7 ∧ Ext w'8 w'9 →
bcase (x6 == (8 : Int))
(∃ (g8 : Int),
#[Value.int IntKind.i32 (10 : Int)] = #[Value.int IntKind.i32 g8] ∧
True ∧
∀ (x7 : Int) (w'10 : World),
x7 = brkR g8 ∧ Ext w'9 w'10 →
bcase (x7 == (2 : Int))
(∃ (g9 : Int),
#[Value.int IntKind.i32 (60 : Int)] = #[Value.int IntKind.i32 g9] ∧
True ∧
∀ (x8 : Int) (w'11 : World),
x8 = mirF g9 ∧ Ext w'10 w'11 →
bcase (x8 == (62 : Int)) (∃ (c3 : Unit), (Value.bool !x.snd.snd) = Value.bool true ∧ Ext w'3 w'11)
(∃ (c3 : Unit), Value.bool false = Value.bool true ∧ Ext w'3 w'11))
(∃ (c3 : Unit), Value.bool false = Value.bool true ∧ Ext w'3 w'10))
(∃ (c3 : Unit), Value.bool false = Value.bool true ∧ Ext w'3 w'9))
(∃ (c3 : Unit), Value.bool false = Value.bool true ∧ Ext w'3 w'8))
(∃ (c3 : Unit), Value.bool false = Value.bool true ∧ Ext w'3 w'7))
(∃ (c3 : Unit), Value.bool false = Value.bool true ∧ Ext w'3 w'6))
(∃ (c3 : Unit), Value.bool false = Value.bool true ∧ Ext w'3 w'5))
(∃ (c3 : Unit), Value.bool false = Value.bool true ∧ Ext w'3 w'4)) ∧
∀ (u3 : Nat → Value) (c3 : Unit) (w'4 : World),
Ext w'3 w'4 →
∃ (g2 : Int × Int),
#[Value.int IntKind.i8 (77 : Int), Value.int IntKind.i64 (0 : Int)] =
#[Value.int IntKind.i8 g2.fst, Value.int IntKind.i64 g2.snd] ∧
True ∧
∀ (x1 : Option Addr × Nat × Nat) (w'5 : World),
x1.snd.fst = (spansT g2.fst g2.snd).length ∧
Made w'4 w'5 (38 : TypeId) (2 : Nat) x1.fst x1.snd.fst (List.flatMap spV (spansT g2.fst g2.snd)) x1.snd.snd →
bcase ((↑x1.snd.fst : Int) == (0 : Int))
(∃ (g3 : Int × Int),
#[Value.int IntKind.i8 (4 : Int), Value.int IntKind.i64 (9 : Int)] =
#[Value.int IntKind.i8 g3.fst, Value.int IntKind.i64 g3.snd] ∧
True ∧
∀ (x2 : Option Addr × Nat × Nat) (w'6 : World),
x2.snd.fst = (spansT g3.fst g3.snd).length ∧
Made w'5 w'6 (38 : TypeId) (2 : Nat) x2.fst x2.snd.fst (List.flatMap spV (spansT g3.fst g3.snd)) x2.snd.snd →
bcase ((↑x2.snd.fst : Int) == (0 : Int))
(∃ (g4 : Unit),
(#[] : Array Value) = #[] ∧
True ∧ ∀ (x3 : Unit) (w'7 : World), Ext w'6 w'7 → ∃ (x4 : Unit), Value.bool true = Value.bool true ∧ Ext w w'7)
(∃ (x3 : Unit), Value.bool false = Value.bool true ∧ Ext w w'6))
(∃ (x2 : Unit), Value.bool false = Value.bool true ∧ Ext w w'5)) :
    (sWorks).Ok Try.prog 10 :=
  ok_of_vc sWorks annKnown2 spKnown2 (fun _ _ => rfl) (fun _ _ => rfl) hsp Try.func10 rfl (n := 0) (fun _ => rfl) (by kernel_rfl) (vcast (by kernel_rfl) h)

set_option maxRecDepth 1000000 in
theorem is_vc (hsp : SpecsOk Try.prog spIs) (h : ∀ (g : Int × Int) (w : World),
True →
bcase (g.fst == (0 : Int))
(∃ (g1 : Int),
#[Value.int IntKind.i32 g.snd] = #[Value.int IntKind.i32 g1] ∧
True ∧
∀ (x : Int) (w' : World),
x = kindR g1 ∧ Ext w w' →
InR IntKind.i64 x ∧ ∃ (x1 : Int), Value.int IntKind.i64 x = Value.int IntKind.i64 x1 ∧ x1 = isF g.fst g.snd ∧ Ext w w')
(bcase (g.fst == (1 : Int))
(∃ (g1 : Int),
#[Value.int IntKind.i32 g.snd] = #[Value.int IntKind.i32 g1] ∧
True ∧
∀ (x : Int) (w' : World),
x = dirR g1 ∧ Ext w w' →
InR IntKind.i64 x ∧ ∃ (x1 : Int), Value.int IntKind.i64 x = Value.int IntKind.i64 x1 ∧ x1 = isF g.fst g.snd ∧ Ext w w')
(bcase (g.fst == (2 : Int))
(∃ (g1 : Int × Bool),
#[Value.int IntKind.i32 g.snd, Value.bool false] = #[Value.int IntKind.i32 g1.fst, Value.bool g1.snd] ∧
True ∧
∀ (x : Int) (w' : World),
x = wideR g1.fst g1.snd ∧ Ext w w' →
bcase (x == (1 : Int))
(∃ (g2 : Int × Bool),
#[Value.int IntKind.i32 g.snd, Value.bool true] = #[Value.int IntKind.i32 g2.fst, Value.bool g2.snd] ∧
True ∧
∀ (x1 : Int) (w'1 : World),
x1 = wideR g2.fst g2.snd ∧ Ext w' w'1 →
bcase (x1 == (2 : Int))
(∃ (x2 : Int), Value.int IntKind.i64 (3 : Int) = Value.int IntKind.i64 x2 ∧ x2 = isF g.fst g.snd ∧ Ext w w'1)
(∃ (x2 : Int), Value.int IntKind.i64 x = Value.int IntKind.i64 x2 ∧ x2 = isF g.fst g.snd ∧ Ext w w'1))
(∃ (x1 : Int), Value.int IntKind.i64 x = Value.int IntKind.i64 x1 ∧ x1 = isF g.fst g.snd ∧ Ext w w'))
(bcase (g.fst == (3 : Int))
(∃ (g1 : Int),
#[Value.int IntKind.i32 g.snd] = #[Value.int IntKind.i32 g1] ∧
True ∧
∀ (x : Int) (w' : World),
x = markR g1 ∧ Ext w w' →
InR IntKind.i64 x ∧ ∃ (x1 : Int), Value.int IntKind.i64 x = Value.int IntKind.i64 x1 ∧ x1 = isF g.fst g.snd ∧ Ext w w')
(bcase (g.fst == (4 : Int))
(∃ (g1 : Int),
#[Value.int IntKind.i32 g.snd] = #[Value.int IntKind.i32 g1] ∧
True ∧
∀ (x : Int) (w' : World),
x = joinR g1 ∧ Ext w w' →
InR IntKind.i64 x ∧ ∃ (x1 : Int), Value.int IntKind.i64 x = Value.int IntKind.i64 x1 ∧ x1 = isF g.fst g.snd ∧ Ext w w')
(∃ (g1 : Int),
#[Value.int IntKind.i32 g.snd] = #[Value.int IntKind.i32 g1] ∧
True ∧
∀ (x : Int) (w' : World),
x = brkR g1 ∧ Ext w w' →
InR IntKind.i64 x ∧
∃ (x1 : Int), Value.int IntKind.i64 x = Value.int IntKind.i64 x1 ∧ x1 = isF g.fst g.snd ∧ Ext w w')))))) :
    (sIs).Ok Try.prog 31 :=
  ok_of_vc sIs (annOf spIs) spIs (fun _ _ => rfl) (fun _ _ => rfl) hsp Try.func31 rfl (n := 2) (fun _ => rfl) (by kernel_rfl) (vcast (by kernel_rfl) h)

set_option maxRecDepth 1000000 in
theorem lawHold_vc (hsp : SpecsOk Try.prog spHold) (h : ∀ (g : Int × Int × Int) (w : World),
True →
∃ (g1 : Unit),
(#[] : Array Value) = #[] ∧
True ∧
∀ (x : Unit) (w' : World),
Ext w w' →
∃ (g2 : Int × Int),
#[Value.int IntKind.i8 g.fst, Value.int IntKind.i64 g.snd.fst] =
#[Value.int IntKind.i8 g2.fst, Value.int IntKind.i64 g2.snd] ∧
True ∧
∀ (x1 : Option Addr × Nat × Nat) (w'1 : World),
x1.snd.fst = (spansT g2.fst g2.snd).length ∧
Made w' w'1 (38 : TypeId) (2 : Nat) x1.fst x1.snd.fst (List.flatMap spV (spansT g2.fst g2.snd)) x1.snd.snd →
bcase (decide (g.fst < (0 : Int)) || decide (g.fst > (5 : Int)))
(∃ (x2 : Unit), Value.bool ((↑x1.snd.fst : Int) == (0 : Int)) = Value.bool true ∧ Ext w w'1)
((∃ (x2 : Nat),
Value.int IntKind.i64 (0 : Int) = Value.int IntKind.i64 (↑x2 : Int) ∧
x2 ≤ (spansT g.fst g.snd.fst).length ∧ Ext w'1 w'1) ∧
∀ (u : Nat → Value) (x2 : Nat) (w'2 : World),
x2 ≤ (spansT g.fst g.snd.fst).length ∧ Ext w'1 w'2 →
bcase (decide ((↑x2 : Int) < (↑x1.snd.fst : Int)))
(∃ (k : Nat),
(↑x2 : Int) = (↑k : Int) ∧
k < x1.snd.fst ∧
ptrE x1.fst fun (b o : Nat) =>
∃ (n : Int),
w'2.cell? { block := b, off := o + k * (2 : Nat) } = some (Value.int IntKind.i32 n) ∧
∃ (n1 : Int),
w'2.cell? { block := b, off := o + k * (2 : Nat) + (1 : Nat) } = some (Value.int IntKind.i32 n1) ∧
∀ (b1 : Nat) (w1 : World),
New w'2 (Obj.cells #[Value.int IntKind.i32 n, Value.int IntKind.i32 n1] (38 : Nat)) b1 w1 →
(∀ (w11 : World),
Drew w1 w11 →
∃ (n2 : Int),
w1.cell? { block := b1, off := (0 : Nat) } = some (Value.int IntKind.i32 n2) ∧
∃ (n3 : Int),
w1.cell? { block := b1, off := (1 : Nat) } = some (Value.int IntKind.i32 n3) ∧
bcase (decide (n2 > n3)) (∃ (c : Unit), Value.bool true = Value.bool false ∧ Ext w1 w11)
(∃ (n4 : Int),
w1.cell? { block := b1, off := (0 : Nat) } = some (Value.int IntKind.i32 n4) ∧
bcase (decide (n4 < (0 : Int))) (∃ (c : Unit), Value.bool true = Value.bool false ∧ Ext w1 w11)
(∃ (n5 : Int),
w1.cell? { block := b1, off := (1 : Nat) } = some (Value.int IntKind.i32 n5) ∧
bcase (decide (n5 > (1114111 : Int))) (∃ (c : Unit), Value.bool true = Value.bool false ∧ Ext w1 w11)
(∃ (n6 : Int),
w1.cell? { block := b1, off := (0 : Nat) } = some (Value.int IntKind.i32 n6) ∧
bcase (decide (n6 < (57344 : Int)))
(∃ (n7 : Int),
w1.cell? { block := b1, off := (1 : Nat) } = some (Value.int IntKind.i32 n7) ∧
bcase (decide (n7 > (55295 : Int))) (∃ (c : Unit), Value.bool true = Value.bool false ∧ Ext w1 w11)
(bcase (decide ((↑x2 : Int) > (0 : Int)))
(∃ (n8 : Int),
w1.cell? { block := b1, off := (0 : Nat) } = some (Value.int IntKind.i32 n8) ∧
InR IntKind.i64 ((↑x2 : Int) - (1 : Int)) ∧
∃ (k1 : Nat),
(↑x2 : Int) - (1 : Int) = (↑k1 : Int) ∧
k1 < x1.snd.fst ∧
ptrE x1.fst fun (b2 o1 : Nat) =>
∃ (n9 : Int),
w1.cell? { block := b2, off := o1 + k1 * (2 : Nat) + (1 : Nat) } = some (Value.int IntKind.i32 n9) ∧
InR IntKind.i32 (n9 + (1 : Int)) ∧
∃ (c : Unit), Value.bool (decide (n8 ≤ n9 + (1 : Int))) = Value.bool false ∧ Ext w1 w11)
(∃ (c : Unit), Value.bool false = Value.bool false ∧ Ext w1 w11)))
(bcase (decide ((↑x2 : Int) > (0 : Int)))
(∃ (n7 : Int),
w1.cell? { block := b1, off := (0 : Nat) } = some (Value.int IntKind.i32 n7) ∧
InR IntKind.i64 ((↑x2 : Int) - (1 : Int)) ∧
∃ (k1 : Nat),
(↑x2 : Int) - (1 : Int) = (↑k1 : Int) ∧
k1 < x1.snd.fst ∧
ptrE x1.fst fun (b2 o1 : Nat) =>
∃ (n8 : Int),
w1.cell? { block := b2, off := o1 + k1 * (2 : Nat) + (1 : Nat) } = some (Value.int IntKind.i32 n8) ∧
InR IntKind.i32 (n8 + (1 : Int)) ∧
∃ (c : Unit), Value.bool (decide (n7 ≤ n8 + (1 : Int))) = Value.bool false ∧ Ext w1 w11)
(∃ (c : Unit), Value.bool false = Value.bool false ∧ Ext w1 w11)))))) ∧
∀ (u1 : Nat → Value) (c : Unit) (w'3 : World),
Ext w1 w'3 →
(∃ (n2 : Int),
w'3.cell? { block := b1, off := (0 : Nat) } = some (Value.int IntKind.i32 n2) ∧
∃ (g3 : Int × Int),
#[Value.int IntKind.i8 g.fst, Value.int IntKind.i32 n2] = #[Value.int IntKind.i8 g3.fst, Value.int IntKind.i32 g3.snd] ∧
True ∧
∀ (x3 : Int) (w'4 : World),
x3 = isF g3.fst g3.snd ∧ Ext w'3 w'4 →
bcase (x3 != g.snd.fst) (∃ (c1 : Unit), Value.bool true = Value.bool false ∧ Ext w'3 w'4)
(∃ (n3 : Int),
w'4.cell? { block := b1, off := (1 : Nat) } = some (Value.int IntKind.i32 n3) ∧
∃ (g4 : Int × Int),
#[Value.int IntKind.i8 g.fst, Value.int IntKind.i32 n3] = #[Value.int IntKind.i8 g4.fst, Value.int IntKind.i32 g4.snd] ∧
True ∧
∀ (x4 : Int) (w'5 : World),
x4 = isF g4.fst g4.snd ∧ Ext w'4 w'5 →
bcase (x4 != g.snd.fst) (∃ (c1 : Unit), Value.bool true = Value.bool false ∧ Ext w'3 w'5)
(∃ (n4 : Int),
w'5.cell? { block := b1, off := (0 : Nat) } = some (Value.int IntKind.i32 n4) ∧
∃ (n5 : Int),
w'5.cell? { block := b1, off := (1 : Nat) } = some (Value.int IntKind.i32 n5) ∧
∃ (n6 : Int),
w'5.cell? { block := b1, off := (0 : Nat) } = some (Value.int IntKind.i32 n6) ∧
InR IntKind.i32 (n5 - n6) ∧
(0 : Int) ≤ n5 - n6 ∧
(0 : Int) < (2 : Int) ∧
InR IntKind.i32 ((n5 - n6) / (2 : Int)) ∧
InR IntKind.i32 (n4 + (n5 - n6) / (2 : Int)) ∧
∃ (g5 : Int × Int),
#[Value.int IntKind.i8 g.fst, Value.int IntKind.i32 (n4 + (n5 - n6) / (2 : Int))] =
#[Value.int IntKind.i8 g5.fst, Value.int IntKind.i32 g5.snd] ∧
True ∧
∀ (x5 : Int) (w'6 : World),
x5 = isF g5.fst g5.snd ∧ Ext w'5 w'6 → ∃ (c1 : Unit), Value.bool (x5 != g.snd.fst) = Value.bool false ∧ Ext w'3 w'6))) ∧
∀ (u2 : Nat → Value) (c1 : Unit) (w'4 : World),
Ext w'3 w'4 →
InR IntKind.i64 ((↑x2 : Int) + (1 : Int)) ∧
∃ (y : Nat),
Value.int IntKind.i64 ((↑x2 : Int) + (1 : Int)) = Value.int IntKind.i64 (↑y : Int) ∧
(y ≤ (spansT g.fst g.snd.fst).length ∧ Ext w'1 w'4) ∧
(spansT g.fst g.snd.fst).length - y < (spansT g.fst g.snd.fst).length - x2)
(bcase
(decide (g.snd.snd < (0 : Int)) ||
(decide (g.snd.snd > (1114111 : Int)) || decide (g.snd.snd ≥ (55296 : Int)) && decide (g.snd.snd ≤ (57343 : Int))))
(∃ (g3 : Int × Int),
#[Value.int IntKind.i8 g.fst, Value.int IntKind.i32 g.snd.snd] =
#[Value.int IntKind.i8 g3.fst, Value.int IntKind.i32 g3.snd] ∧
True ∧
∀ (x3 : Int) (w'3 : World),
x3 = isF g3.fst g3.snd ∧ Ext w'2 w'3 →
∃ (g4 : Int × Int),
#[Value.int IntKind.i8 g.fst, Value.int IntKind.i32 (65533 : Int)] =
#[Value.int IntKind.i8 g4.fst, Value.int IntKind.i32 g4.snd] ∧
True ∧
∀ (x4 : Int) (w'4 : World),
x4 = isF g4.fst g4.snd ∧ Ext w'3 w'4 → ∃ (x5 : Unit), Value.bool (x3 == x4) = Value.bool true ∧ Ext w w'4)
((∃ (x3 : Nat),
Value.int IntKind.i64 (0 : Int) = Value.int IntKind.i64 (↑x3 : Int) ∧
Value.int IntKind.i64 (0 : Int) =
Value.int IntKind.i64 (↑(List.countP (inS g.snd.snd) (List.take x3 (spansT g.fst g.snd.fst))) : Int) ∧
x3 ≤ (spansT g.fst g.snd.fst).length ∧ Ext w'2 w'2) ∧
∀ (u1 : Nat → Value) (x3 : Nat) (w'3 : World),
x3 ≤ (spansT g.fst g.snd.fst).length ∧ Ext w'2 w'3 →
bcase (decide ((↑x3 : Int) < (↑x1.snd.fst : Int)))
(∃ (k : Nat),
(↑x3 : Int) = (↑k : Int) ∧
k < x1.snd.fst ∧
ptrE x1.fst fun (b o : Nat) =>
∃ (n : Int),
w'3.cell? { block := b, off := o + k * (2 : Nat) } = some (Value.int IntKind.i32 n) ∧
bcase (decide (g.snd.snd ≥ n))
(∃ (k1 : Nat),
(↑x3 : Int) = (↑k1 : Int) ∧
k1 < x1.snd.fst ∧
ptrE x1.fst fun (b1 o1 : Nat) =>
∃ (n1 : Int),
w'3.cell? { block := b1, off := o1 + k1 * (2 : Nat) + (1 : Nat) } = some (Value.int IntKind.i32 n1) ∧
bcase (decide (g.snd.snd ≤ n1))
(InR IntKind.i64 ((↑(List.countP (inS g.snd.snd) (List.take x3 (spansT g.fst g.snd.fst))) : Int) + (1 : Int)) ∧
InR IntKind.i64 ((↑x3 : Int) + (1 : Int)) ∧
∃ (y : Nat),
Value.int IntKind.i64 ((↑x3 : Int) + (1 : Int)) = Value.int IntKind.i64 (↑y : Int) ∧
Value.int IntKind.i64 ((↑(List.countP (inS g.snd.snd) (List.take x3 (spansT g.fst g.snd.fst))) : Int) + (1 : Int)) =
Value.int IntKind.i64 (↑(List.countP (inS g.snd.snd) (List.take y (spansT g.fst g.snd.fst))) : Int) ∧
(y ≤ (spansT g.fst g.snd.fst).length ∧ Ext w'2 w'3) ∧
(spansT g.fst g.snd.fst).length - y < (spansT g.fst g.snd.fst).length - x3)
(InR IntKind.i64 ((↑x3 : Int) + (1 : Int)) ∧
∃ (y : Nat),
Value.int IntKind.i64 ((↑x3 : Int) + (1 : Int)) = Value.int IntKind.i64 (↑y : Int) ∧
Value.int IntKind.i64 (↑(List.countP (inS g.snd.snd) (List.take x3 (spansT g.fst g.snd.fst))) : Int) =
Value.int IntKind.i64 (↑(List.countP (inS g.snd.snd) (List.take y (spansT g.fst g.snd.fst))) : Int) ∧
(y ≤ (spansT g.fst g.snd.fst).length ∧ Ext w'2 w'3) ∧
(spansT g.fst g.snd.fst).length - y < (spansT g.fst g.snd.fst).length - x3))
(InR IntKind.i64 ((↑x3 : Int) + (1 : Int)) ∧
∃ (y : Nat),
Value.int IntKind.i64 ((↑x3 : Int) + (1 : Int)) = Value.int IntKind.i64 (↑y : Int) ∧
Value.int IntKind.i64 (↑(List.countP (inS g.snd.snd) (List.take x3 (spansT g.fst g.snd.fst))) : Int) =
Value.int IntKind.i64 (↑(List.countP (inS g.snd.snd) (List.take y (spansT g.fst g.snd.fst))) : Int) ∧
(y ≤ (spansT g.fst g.snd.fst).length ∧ Ext w'2 w'3) ∧
(spansT g.fst g.snd.fst).length - y < (spansT g.fst g.snd.fst).length - x3))
(bcase (decide ((↑(List.countP (inS g.snd.snd) (List.take x3 (spansT g.fst g.snd.fst))) : Int) ≤ (1 : Int)))
(∃ (g3 : Int × Int),
#[Value.int IntKind.i8 g.fst, Value.int IntKind.i32 g.snd.snd] =
#[Value.int IntKind.i8 g3.fst, Value.int IntKind.i32 g3.snd] ∧
True ∧
∀ (x4 : Int) (w'4 : World),
x4 = isF g3.fst g3.snd ∧ Ext w'3 w'4 →
∃ (x5 : Unit),
Value.bool
(((↑(List.countP (inS g.snd.snd) (List.take x3 (spansT g.fst g.snd.fst))) : Int) == (1 : Int)) == (x4 == g.snd.fst)) =
Value.bool true ∧
Ext w w'4)
(∃ (x4 : Unit), Value.bool false = Value.bool true ∧ Ext w w'3)))))) :
    (sHold).Ok Try.prog 7 :=
  ok_of_vc sHold annHold spHold (fun _ _ => rfl) (fun _ _ => rfl) hsp Try.func7 rfl (n := 3) (fun _ => rfl) (by kernel_rfl) (vcast (by kernel_rfl) h)

set_option maxRecDepth 1000000 in
theorem lawTil_vc (hsp : SpecsOk Try.prog spTil) (h : ∀ (g : Int) (w : World),
True →
∃ (g1 : Unit),
(#[] : Array Value) = #[] ∧
True ∧
∀ (x : Unit) (w' : World),
Ext w w' →
(∃ (x1 : Nat),
Value.int IntKind.i64 (-1 : Int) = Value.int IntKind.i64 ((↑x1 : Int) - (1 : Int)) ∧
Value.int IntKind.i64 (0 : Int) = Value.int IntKind.i64 (↑(tilF g x1) : Int) ∧ x1 ≤ (262 : Nat) ∧ Ext w' w') ∧
∀ (u : Nat → Value) (x1 : Nat) (w'1 : World),
x1 ≤ (262 : Nat) ∧ Ext w' w'1 →
bcase (decide ((↑x1 : Int) - (1 : Int) < (261 : Int)))
(∃ (g2 : Int × Int),
#[Value.int IntKind.i8 g, Value.int IntKind.i64 ((↑x1 : Int) - (1 : Int))] =
#[Value.int IntKind.i8 g2.fst, Value.int IntKind.i64 g2.snd] ∧
True ∧
∀ (x2 : Option Addr × Nat × Nat) (w'2 : World),
x2.snd.fst = (spansT g2.fst g2.snd).length ∧
Made w'1 w'2 (38 : TypeId) (2 : Nat) x2.fst x2.snd.fst (List.flatMap spV (spansT g2.fst g2.snd)) x2.snd.snd →
(∃ (x3 : Nat × Nat),
Value.int IntKind.i64 (0 : Int) = Value.int IntKind.i64 (↑x3.snd : Int) ∧
Value.int IntKind.i64 (↑(tilF g x1) : Int) =
Value.int IntKind.i64 (↑(tilF g x3.fst + lenF (List.take x3.snd (spansT g ((↑x3.fst : Int) - (1 : Int))))) : Int) ∧
x3.fst < (262 : Nat) ∧
(↑x1 : Int) - (1 : Int) = (↑x3.fst : Int) - (1 : Int) ∧
x3.snd ≤ (spansT g ((↑x3.fst : Int) - (1 : Int))).length ∧ Ext w'2 w'2) ∧
∀ (u1 : Nat → Value) (x3 : Nat × Nat) (w'3 : World),
x3.fst < (262 : Nat) ∧
(↑x1 : Int) - (1 : Int) = (↑x3.fst : Int) - (1 : Int) ∧
x3.snd ≤ (spansT g ((↑x3.fst : Int) - (1 : Int))).length ∧ Ext w'2 w'3 →
bcase (decide ((↑x3.snd : Int) < (↑x2.snd.fst : Int)))
(∀ (w1 : World),
Drew w'3 w1 →
∃ (k : Nat),
(↑x3.snd : Int) = (↑k : Int) ∧
k < x2.snd.fst ∧
ptrE x2.fst fun (b o : Nat) =>
∃ (n : Int),
w'3.cell? { block := b, off := o + k * (2 : Nat) + (1 : Nat) } = some (Value.int IntKind.i32 n) ∧
∃ (k1 : Nat),
(↑x3.snd : Int) = (↑k1 : Int) ∧
k1 < x2.snd.fst ∧
ptrE x2.fst fun (b1 o1 : Nat) =>
∃ (n1 : Int),
w'3.cell? { block := b1, off := o1 + k1 * (2 : Nat) } = some (Value.int IntKind.i32 n1) ∧
InR IntKind.i32 (n - n1) ∧
InR IntKind.i64 (n - n1) ∧
Below w1.heap.size w1 w1 ∧
InR IntKind.i64 (n - n1 + (1 : Int)) ∧
InR IntKind.i64
((↑(tilF g x3.fst + lenF (List.take x3.snd (spansT g ((↑x3.fst : Int) - (1 : Int))))) : Int) + (n - n1 + (1 : Int))) ∧
InR IntKind.i64 ((↑x3.snd : Int) + (1 : Int)) ∧
∃ (y : Nat × Nat),
Value.int IntKind.i64 ((↑x3.snd : Int) + (1 : Int)) = Value.int IntKind.i64 (↑y.snd : Int) ∧
Value.int IntKind.i64
((↑(tilF g x3.fst + lenF (List.take x3.snd (spansT g ((↑x3.fst : Int) - (1 : Int))))) : Int) + (n - n1 + (1 : Int))) =
Value.int IntKind.i64 (↑(tilF g y.fst + lenF (List.take y.snd (spansT g ((↑y.fst : Int) - (1 : Int))))) : Int) ∧
(y.fst < (262 : Nat) ∧
(↑x1 : Int) - (1 : Int) = (↑y.fst : Int) - (1 : Int) ∧
y.snd ≤ (spansT g ((↑y.fst : Int) - (1 : Int))).length ∧ Ext w'2 w1) ∧
(spansT g ((↑y.fst : Int) - (1 : Int))).length - y.snd < (spansT g ((↑x3.fst : Int) - (1 : Int))).length - x3.snd)
(InR IntKind.i64 ((↑x1 : Int) - (1 : Int) + (1 : Int)) ∧
∃ (y : Nat),
Value.int IntKind.i64 ((↑x1 : Int) - (1 : Int) + (1 : Int)) = Value.int IntKind.i64 ((↑y : Int) - (1 : Int)) ∧
Value.int IntKind.i64 (↑(tilF g x3.fst + lenF (List.take x3.snd (spansT g ((↑x3.fst : Int) - (1 : Int))))) : Int) =
Value.int IntKind.i64 (↑(tilF g y) : Int) ∧
(y ≤ (262 : Nat) ∧ Ext w' w'3) ∧ (262 : Nat) - y < (262 : Nat) - x1))
(bcase (decide (g < (0 : Int)) || decide (g > (5 : Int)))
(∃ (x2 : Unit), Value.bool ((↑(tilF g x1) : Int) == (0 : Int)) = Value.bool true ∧ Ext w w'1)
(∃ (x2 : Unit), Value.bool ((↑(tilF g x1) : Int) == (1112064 : Int)) = Value.bool true ∧ Ext w w'1))) :
    (sLawT).Ok Try.prog 8 :=
  ok_of_vc sLawT annTil spTil (fun _ _ => rfl) (fun _ _ => rfl) hsp Try.func8 rfl (n := 1) (fun _ => rfl) (by kernel_rfl) (vcast (by kernel_rfl) h)

set_option maxRecDepth 1000000 in
theorem lawAlike_vc (hsp : SpecsOk Try.prog spAlike) (h : ∀ (g : Int) (w : World),
True →
∃ (g1 : Unit),
(#[] : Array Value) = #[] ∧
True ∧
∀ (x : Unit) (w' : World),
Ext w w' →
∃ (g2 : Int),
#[Value.int IntKind.i32 g] = #[Value.int IntKind.i32 g2] ∧
True ∧
∀ (x1 : Int) (w'1 : World),
x1 = mirF g2 ∧ Ext w' w'1 →
∃ (g3 : Int),
#[Value.int IntKind.i32 x1] = #[Value.int IntKind.i32 g3] ∧
True ∧
∀ (x2 : Int) (w'2 : World),
x2 = mirF g3 ∧ Ext w'1 w'2 →
bcase
(x2 != g ||
!(decide (g ≥ (0 : Int)) &&
(decide (g ≤ (1114111 : Int)) && (decide (g < (55296 : Int)) || decide (g > (57343 : Int))))) &&
x1 != g)
(∃ (x3 : Unit), Value.bool false = Value.bool true ∧ Ext w w'2)
(∃ (g4 : Int),
#[Value.int IntKind.i32 g] = #[Value.int IntKind.i32 g4] ∧
True ∧
∀ (x3 : Int × Bool × Bool) (w'3 : World),
x3 = pairF g4 ∧ Ext w'2 w'3 →
bcase x3.snd.snd
(∃ (g5 : Int),
#[Value.int IntKind.i32 x3.fst] = #[Value.int IntKind.i32 g5] ∧
True ∧
∀ (x4 : Int × Bool × Bool) (w'4 : World),
x4 = pairF g5 ∧ Ext w'3 w'4 →
(∃ (c : Unit),
Value.bool (x3.fst != x1 || (!x4.snd.snd || (x4.fst != g || (x4.snd.fst == x3.snd.fst || x3.fst == g)))) =
Value.bool false ∧
Ext w'4 w'4) ∧
∀ (u : Nat → Value) (c : Unit) (w'5 : World),
Ext w'4 w'5 →
∃ (g6 : Int),
#[Value.int IntKind.i32 g] = #[Value.int IntKind.i32 g6] ∧
True ∧
∀ (x5 : Int) (w'6 : World),
x5 = kindR g6 ∧ Ext w'5 w'6 →
(∃ (g7 : Int),
#[Value.int IntKind.i32 g] = #[Value.int IntKind.i32 g7] ∧
True ∧
∀ (x6 : Int) (w'7 : World),
x6 = dirR g7 ∧ Ext w'6 w'7 →
bcase (!(x5 == (2 : Int)) == (x6 == (8 : Int))) (∃ (c1 : Unit), Value.bool true = Value.bool false ∧ Ext w'6 w'7)
(∃ (g8 : Int),
#[Value.int IntKind.i32 g] = #[Value.int IntKind.i32 g8] ∧
True ∧
∀ (x7 : Int) (w'8 : World),
x7 = joinR g8 ∧ Ext w'7 w'8 →
bcase (!(x5 == (2 : Int)) == (x7 == (4 : Int))) (∃ (c1 : Unit), Value.bool true = Value.bool false ∧ Ext w'6 w'8)
(bcase (x5 == (2 : Int))
(∃ (g9 : Int × Bool),
#[Value.int IntKind.i32 g, Value.bool true] = #[Value.int IntKind.i32 g9.fst, Value.bool g9.snd] ∧
True ∧
∀ (x8 : Int) (w'9 : World),
x8 = wideR g9.fst g9.snd ∧ Ext w'8 w'9 →
bcase (x8 != (0 : Int)) (∃ (c1 : Unit), Value.bool true = Value.bool false ∧ Ext w'6 w'9)
(∃ (g10 : Int),
#[Value.int IntKind.i32 g] = #[Value.int IntKind.i32 g10] ∧
True ∧
∀ (x9 : Int) (w'10 : World),
x9 = markR g10 ∧ Ext w'9 w'10 →
bcase (decide (x9 > (0 : Int))) (∃ (c1 : Unit), (Value.bool !x5 == (2 : Int)) = Value.bool false ∧ Ext w'6 w'10)
(∃ (c1 : Unit), Value.bool false = Value.bool false ∧ Ext w'6 w'10)))
(∃ (g9 : Int),
#[Value.int IntKind.i32 g] = #[Value.int IntKind.i32 g9] ∧
True ∧
∀ (x8 : Int) (w'9 : World),
x8 = markR g9 ∧ Ext w'8 w'9 →
bcase (decide (x8 > (0 : Int))) (∃ (c1 : Unit), (Value.bool !x5 == (2 : Int)) = Value.bool false ∧ Ext w'6 w'9)
(∃ (c1 : Unit), Value.bool false = Value.bool false ∧ Ext w'6 w'9))))) ∧
∀ (u1 : Nat → Value) (c1 : Unit) (w'7 : World),
Ext w'6 w'7 →
∃ (g7 : Int),
#[Value.int IntKind.i32 g] = #[Value.int IntKind.i32 g7] ∧
True ∧
∀ (x6 : Int) (w'8 : World),
x6 = kindR g7 ∧ Ext w'7 w'8 →
bcase (x6 != (0 : Int))
(bcase (x6 != (1 : Int))
(∃ (g8 : Int × Bool),
#[Value.int IntKind.i32 g, Value.bool false] = #[Value.int IntKind.i32 g8.fst, Value.bool g8.snd] ∧
True ∧
∀ (x7 : Int) (w'9 : World),
x7 = wideR g8.fst g8.snd ∧ Ext w'8 w'9 →
∃ (g9 : Int × Bool),
#[Value.int IntKind.i32 g, Value.bool true] = #[Value.int IntKind.i32 g9.fst, Value.bool g9.snd] ∧
True ∧
∀ (x8 : Int) (w'10 : World),
x8 = wideR g9.fst g9.snd ∧ Ext w'9 w'10 → ∃ (x9 : Unit), Value.bool (decide (x7 ≤ x8)) = Value.bool true ∧ Ext w w'10)
(∃ (g8 : Int × Bool),
#[Value.int IntKind.i32 g, Value.bool true] = #[Value.int IntKind.i32 g8.fst, Value.bool g8.snd] ∧
True ∧
∀ (x7 : Int) (w'9 : World),
x7 = wideR g8.fst g8.snd ∧ Ext w'8 w'9 →
bcase (x7 == (0 : Int))
(∃ (g9 : Int × Bool),
#[Value.int IntKind.i32 g, Value.bool false] = #[Value.int IntKind.i32 g9.fst, Value.bool g9.snd] ∧
True ∧
∀ (x8 : Int) (w'10 : World),
x8 = wideR g9.fst g9.snd ∧ Ext w'9 w'10 →
∃ (g10 : Int × Bool),
#[Value.int IntKind.i32 g, Value.bool true] = #[Value.int IntKind.i32 g10.fst, Value.bool g10.snd] ∧
True ∧
∀ (x9 : Int) (w'11 : World),
x9 = wideR g10.fst g10.snd ∧ Ext w'10 w'11 →
∃ (x10 : Unit), Value.bool (decide (x8 ≤ x9)) = Value.bool true ∧ Ext w w'11)
(∃ (x8 : Unit), Value.bool false = Value.bool true ∧ Ext w w'9)))
(∃ (g8 : Int × Bool),
#[Value.int IntKind.i32 g, Value.bool true] = #[Value.int IntKind.i32 g8.fst, Value.bool g8.snd] ∧
True ∧
∀ (x7 : Int) (w'9 : World),
x7 = wideR g8.fst g8.snd ∧ Ext w'8 w'9 →
bcase (x7 == (0 : Int))
(∃ (g9 : Int × Bool),
#[Value.int IntKind.i32 g, Value.bool false] = #[Value.int IntKind.i32 g9.fst, Value.bool g9.snd] ∧
True ∧
∀ (x8 : Int) (w'10 : World),
x8 = wideR g9.fst g9.snd ∧ Ext w'9 w'10 →
∃ (g10 : Int × Bool),
#[Value.int IntKind.i32 g, Value.bool true] = #[Value.int IntKind.i32 g10.fst, Value.bool g10.snd] ∧
True ∧
∀ (x9 : Int) (w'11 : World),
x9 = wideR g10.fst g10.snd ∧ Ext w'10 w'11 →
∃ (x10 : Unit), Value.bool (decide (x8 ≤ x9)) = Value.bool true ∧ Ext w w'11)
(∃ (x8 : Unit), Value.bool false = Value.bool true ∧ Ext w w'9)))
(bcase (x3.fst != (0 : Int) || x3.snd.fst) (∃ (x4 : Unit), Value.bool false = Value.bool true ∧ Ext w w'3)
(∃ (g5 : Int),
#[Value.int IntKind.i32 g] = #[Value.int IntKind.i32 g5] ∧
True ∧
∀ (x4 : Int) (w'4 : World),
x4 = kindR g5 ∧ Ext w'3 w'4 →
(∃ (g6 : Int),
#[Value.int IntKind.i32 g] = #[Value.int IntKind.i32 g6] ∧
True ∧
∀ (x5 : Int) (w'5 : World),
x5 = dirR g6 ∧ Ext w'4 w'5 →
bcase (!(x4 == (2 : Int)) == (x5 == (8 : Int))) (∃ (c : Unit), Value.bool true = Value.bool false ∧ Ext w'4 w'5)
(∃ (g7 : Int),
#[Value.int IntKind.i32 g] = #[Value.int IntKind.i32 g7] ∧
True ∧
∀ (x6 : Int) (w'6 : World),
x6 = joinR g7 ∧ Ext w'5 w'6 →
bcase (!(x4 == (2 : Int)) == (x6 == (4 : Int))) (∃ (c : Unit), Value.bool true = Value.bool false ∧ Ext w'4 w'6)
(bcase (x4 == (2 : Int))
(∃ (g8 : Int × Bool),
#[Value.int IntKind.i32 g, Value.bool true] = #[Value.int IntKind.i32 g8.fst, Value.bool g8.snd] ∧
True ∧
∀ (x7 : Int) (w'7 : World),
x7 = wideR g8.fst g8.snd ∧ Ext w'6 w'7 →
bcase (x7 != (0 : Int)) (∃ (c : Unit), Value.bool true = Value.bool false ∧ Ext w'4 w'7)
(∃ (g9 : Int),
#[Value.int IntKind.i32 g] = #[Value.int IntKind.i32 g9] ∧
True ∧
∀ (x8 : Int) (w'8 : World),
x8 = markR g9 ∧ Ext w'7 w'8 →
bcase (decide (x8 > (0 : Int))) (∃ (c : Unit), (Value.bool !x4 == (2 : Int)) = Value.bool false ∧ Ext w'4 w'8)
(∃ (c : Unit), Value.bool false = Value.bool false ∧ Ext w'4 w'8)))
(∃ (g8 : Int),
#[Value.int IntKind.i32 g] = #[Value.int IntKind.i32 g8] ∧
True ∧
∀ (x7 : Int) (w'7 : World),
x7 = markR g8 ∧ Ext w'6 w'7 →
bcase (decide (x7 > (0 : Int))) (∃ (c : Unit), (Value.bool !x4 == (2 : Int)) = Value.bool false ∧ Ext w'4 w'7)
(∃ (c : Unit), Value.bool false = Value.bool false ∧ Ext w'4 w'7))))) ∧
∀ (u : Nat → Value) (c : Unit) (w'5 : World),
Ext w'4 w'5 →
∃ (g6 : Int),
#[Value.int IntKind.i32 g] = #[Value.int IntKind.i32 g6] ∧
True ∧
∀ (x5 : Int) (w'6 : World),
x5 = kindR g6 ∧ Ext w'5 w'6 →
bcase (x5 != (0 : Int))
(bcase (x5 != (1 : Int))
(∃ (g7 : Int × Bool),
#[Value.int IntKind.i32 g, Value.bool false] = #[Value.int IntKind.i32 g7.fst, Value.bool g7.snd] ∧
True ∧
∀ (x6 : Int) (w'7 : World),
x6 = wideR g7.fst g7.snd ∧ Ext w'6 w'7 →
∃ (g8 : Int × Bool),
#[Value.int IntKind.i32 g, Value.bool true] = #[Value.int IntKind.i32 g8.fst, Value.bool g8.snd] ∧
True ∧
∀ (x7 : Int) (w'8 : World),
x7 = wideR g8.fst g8.snd ∧ Ext w'7 w'8 → ∃ (x8 : Unit), Value.bool (decide (x6 ≤ x7)) = Value.bool true ∧ Ext w w'8)
(∃ (g7 : Int × Bool),
#[Value.int IntKind.i32 g, Value.bool true] = #[Value.int IntKind.i32 g7.fst, Value.bool g7.snd] ∧
True ∧
∀ (x6 : Int) (w'7 : World),
x6 = wideR g7.fst g7.snd ∧ Ext w'6 w'7 →
bcase (x6 == (0 : Int))
(∃ (g8 : Int × Bool),
#[Value.int IntKind.i32 g, Value.bool false] = #[Value.int IntKind.i32 g8.fst, Value.bool g8.snd] ∧
True ∧
∀ (x7 : Int) (w'8 : World),
x7 = wideR g8.fst g8.snd ∧ Ext w'7 w'8 →
∃ (g9 : Int × Bool),
#[Value.int IntKind.i32 g, Value.bool true] = #[Value.int IntKind.i32 g9.fst, Value.bool g9.snd] ∧
True ∧
∀ (x8 : Int) (w'9 : World),
x8 = wideR g9.fst g9.snd ∧ Ext w'8 w'9 → ∃ (x9 : Unit), Value.bool (decide (x7 ≤ x8)) = Value.bool true ∧ Ext w w'9)
(∃ (x7 : Unit), Value.bool false = Value.bool true ∧ Ext w w'7)))
(∃ (g7 : Int × Bool),
#[Value.int IntKind.i32 g, Value.bool true] = #[Value.int IntKind.i32 g7.fst, Value.bool g7.snd] ∧
True ∧
∀ (x6 : Int) (w'7 : World),
x6 = wideR g7.fst g7.snd ∧ Ext w'6 w'7 →
bcase (x6 == (0 : Int))
(∃ (g8 : Int × Bool),
#[Value.int IntKind.i32 g, Value.bool false] = #[Value.int IntKind.i32 g8.fst, Value.bool g8.snd] ∧
True ∧
∀ (x7 : Int) (w'8 : World),
x7 = wideR g8.fst g8.snd ∧ Ext w'7 w'8 →
∃ (g9 : Int × Bool),
#[Value.int IntKind.i32 g, Value.bool true] = #[Value.int IntKind.i32 g9.fst, Value.bool g9.snd] ∧
True ∧
∀ (x8 : Int) (w'9 : World),
x8 = wideR g9.fst g9.snd ∧ Ext w'8 w'9 → ∃ (x9 : Unit), Value.bool (decide (x7 ≤ x8)) = Value.bool true ∧ Ext w w'9)
(∃ (x7 : Unit), Value.bool false = Value.bool true ∧ Ext w w'7)))))) :
    (sLawR).Ok Try.prog 9 :=
  ok_of_vc sLawR annAlike spAlike (fun _ _ => rfl) (fun _ _ => rfl) hsp Try.func9 rfl (n := 1) (fun _ => rfl) (by kernel_rfl) (vcast (by kernel_rfl) h)

end Go.Proofs.Ytlklgngdagebfaa
