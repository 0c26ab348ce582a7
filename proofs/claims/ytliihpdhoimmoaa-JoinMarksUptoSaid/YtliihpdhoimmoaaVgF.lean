/-
  Verification conditions, printed by a program out of the specifications beside this text: each theorem says that the condition suffices. (Lean's kernel compares the printed condition with what 'wpE' computes.)
-/
import Derived.Test.YtliihpdhoimmoaaSpF
import Derived.Test.YtliihpdhoimmoaaProg
import Derived.KernelRfl
set_option linter.unusedVariables false
namespace Go.Proofs.Ytliihpdhoimmoaa
open Go Go.RowKit Vc Tb

set_option maxRecDepth 1000000 in
theorem is_vc (hsp : SpecsOk Try.prog spIs) (h : ∀ (g : GTwo) (w : World),
GSl.at IntKind.i8 g.a w ∧ GSl.at IntKind.i32 g.b w →
∃ (g1 : GSl),
#[Value.slice g.b.ad g.b.xs.length g.b.c] = #[Value.slice g1.ad g1.xs.length g1.c] ∧
GSl.at IntKind.i32 g1 w ∧
∀ (x : Option Addr × Nat × Nat) (w' : World),
x.snd.fst = (formsR g1.xs).length ∧
Made w w' (27 : TypeId) (1 : Nat) x.fst x.snd.fst (List.map (Value.int IntKind.i8) (formsR g1.xs)) x.snd.snd →
∃ (g2 : GTwo),
#[Value.slice x.fst x.snd.fst x.snd.snd, Value.slice g.a.ad g.a.xs.length g.a.c] =
#[Value.slice g2.a.ad g2.a.xs.length g2.a.c, Value.slice g2.b.ad g2.b.xs.length g2.b.c] ∧
(GSl.at IntKind.i8 g2.a w' ∧ GSl.at IntKind.i8 g2.b w') ∧
∀ (x1 : Bool) (w'1 : World),
x1 = decide (g2.a.xs = g2.b.xs) ∧ Ext w' w'1 →
∃ (x2 : Bool), Value.bool x1 = Value.bool x2 ∧ x2 = decide (formsR g.b.xs = g.a.xs) ∧ Ext w w'1) :
    (sIs).Ok Try.prog 27 :=
  ok_of_vc sIs (fun g _ => annNone spIs g) spIs (fun _ _ => rfl) (fun _ _ => rfl) hsp Try.func27 rfl (n := 2) (fun _ => rfl) (by kernel_rfl) (vcast (by kernel_rfl) h)

set_option maxRecDepth 1000000 in
theorem known11_vc (hsp : SpecsOk Try.prog spKnown11) (h : ∀ (g : Unit) (w : World),
True →
(∀ (b : Nat) (w1 : World),
New w
(Obj.cells #[Value.int IntKind.i8 (1 : Int), Value.int IntKind.i8 (2 : Int), Value.int IntKind.i8 (3 : Int)] (27 : Nat))
b w1 →
∀ (b1 : Nat) (w11 : World),
New w1
(Obj.cells #[Value.int IntKind.i32 (1576 : Int), Value.int IntKind.i32 (1576 : Int), Value.int IntKind.i32 (1576 : Int)]
(21 : Nat))
b1 w11 →
∃ (g1 : GTwo),
#[Value.slice (some { block := b, off := (0 : Nat) }) (3 : Nat) (3 : Nat),
Value.slice (some { block := b1, off := (0 : Nat) }) (3 : Nat) (3 : Nat)] =
#[Value.slice g1.a.ad g1.a.xs.length g1.a.c, Value.slice g1.b.ad g1.b.xs.length g1.b.c] ∧
(GSl.at IntKind.i8 g1.a w11 ∧ GSl.at IntKind.i32 g1.b w11) ∧
∀ (x : Bool) (w' : World),
x = decide (formsR g1.b.xs = g1.a.xs) ∧ Ext w11 w' →
bcase x
(∀ (b2 : Nat) (w12 : World),
New w' (Obj.cells #[Value.int IntKind.i8 (0 : Int), Value.int IntKind.i8 (0 : Int)] (27 : Nat)) b2 w12 →
∀ (b3 : Nat) (w13 : World),
New w12 (Obj.cells #[Value.int IntKind.i32 (1575 : Int), Value.int IntKind.i32 (1576 : Int)] (21 : Nat)) b3 w13 →
∃ (g2 : GTwo),
#[Value.slice (some { block := b2, off := (0 : Nat) }) (2 : Nat) (2 : Nat),
Value.slice (some { block := b3, off := (0 : Nat) }) (2 : Nat) (2 : Nat)] =
#[Value.slice g2.a.ad g2.a.xs.length g2.a.c, Value.slice g2.b.ad g2.b.xs.length g2.b.c] ∧
(GSl.at IntKind.i8 g2.a w13 ∧ GSl.at IntKind.i32 g2.b w13) ∧
∀ (x1 : Bool) (w'1 : World),
x1 = decide (formsR g2.b.xs = g2.a.xs) ∧ Ext w13 w'1 →
bcase x1
(∀ (b4 : Nat) (w14 : World),
New w'1
(Obj.cells #[Value.int IntKind.i8 (1 : Int), Value.int IntKind.i8 (3 : Int), Value.int IntKind.i8 (0 : Int)] (27 : Nat))
b4 w14 →
∀ (b5 : Nat) (w15 : World),
New w14
(Obj.cells #[Value.int IntKind.i32 (1576 : Int), Value.int IntKind.i32 (1575 : Int), Value.int IntKind.i32 (1576 : Int)]
(21 : Nat))
b5 w15 →
∃ (g3 : GTwo),
#[Value.slice (some { block := b4, off := (0 : Nat) }) (3 : Nat) (3 : Nat),
Value.slice (some { block := b5, off := (0 : Nat) }) (3 : Nat) (3 : Nat)] =
#[Value.slice g3.a.ad g3.a.xs.length g3.a.c, Value.slice g3.b.ad g3.b.xs.length g3.b.c] ∧
(GSl.at IntKind.i8 g3.a w15 ∧ GSl.at IntKind.i32 g3.b w15) ∧
∀ (x2 : Bool) (w'2 : World),
x2 = decide (formsR g3.b.xs = g3.a.xs) ∧ Ext w15 w'2 →
bcase x2
(∀ (b6 : Nat) (w16 : World),
New w'2
(Obj.cells #[Value.int IntKind.i8 (1 : Int), Value.int IntKind.i8 (0 : Int), Value.int IntKind.i8 (0 : Int)] (27 : Nat))
b6 w16 →
∀ (b7 : Nat) (w17 : World),
New w16
(Obj.cells #[Value.int IntKind.i32 (1576 : Int), Value.int IntKind.i32 (1600 : Int), Value.int IntKind.i32 (65 : Int)]
(21 : Nat))
b7 w17 →
∃ (g4 : GTwo),
#[Value.slice (some { block := b6, off := (0 : Nat) }) (3 : Nat) (3 : Nat),
Value.slice (some { block := b7, off := (0 : Nat) }) (3 : Nat) (3 : Nat)] =
#[Value.slice g4.a.ad g4.a.xs.length g4.a.c, Value.slice g4.b.ad g4.b.xs.length g4.b.c] ∧
(GSl.at IntKind.i8 g4.a w17 ∧ GSl.at IntKind.i32 g4.b w17) ∧
∀ (x3 : Bool) (w'3 : World),
x3 = decide (formsR g4.b.xs = g4.a.xs) ∧ Ext w17 w'3 →
bcase x3
(∀ (b8 : Nat) (w18 : World),
New w'3 (Obj.cells #[Value.int IntKind.i8 (0 : Int), Value.int IntKind.i8 (3 : Int)] (27 : Nat)) b8 w18 →
∀ (b9 : Nat) (w19 : World),
New w18 (Obj.cells #[Value.int IntKind.i32 (8205 : Int), Value.int IntKind.i32 (1575 : Int)] (21 : Nat)) b9 w19 →
∃ (g5 : GTwo),
#[Value.slice (some { block := b8, off := (0 : Nat) }) (2 : Nat) (2 : Nat),
Value.slice (some { block := b9, off := (0 : Nat) }) (2 : Nat) (2 : Nat)] =
#[Value.slice g5.a.ad g5.a.xs.length g5.a.c, Value.slice g5.b.ad g5.b.xs.length g5.b.c] ∧
(GSl.at IntKind.i8 g5.a w19 ∧ GSl.at IntKind.i32 g5.b w19) ∧
∀ (x4 : Bool) (w'4 : World),
x4 = decide (formsR g5.b.xs = g5.a.xs) ∧ Ext w19 w'4 →
bcase x4
(∀ (b10 : Nat) (w110 : World),
New w'4
(Obj.cells #[Value.int IntKind.i8 (0 : Int), Value.int IntKind.i8 (0 : Int), Value.int IntKind.i8 (0 : Int)] (27 : Nat))
b10 w110 →
∀ (b11 : Nat) (w111 : World),
New w110
(Obj.cells #[Value.int IntKind.i32 (1576 : Int), Value.int IntKind.i32 (8204 : Int), Value.int IntKind.i32 (1576 : Int)]
(21 : Nat))
b11 w111 →
∃ (g6 : GTwo),
#[Value.slice (some { block := b10, off := (0 : Nat) }) (3 : Nat) (3 : Nat),
Value.slice (some { block := b11, off := (0 : Nat) }) (3 : Nat) (3 : Nat)] =
#[Value.slice g6.a.ad g6.a.xs.length g6.a.c, Value.slice g6.b.ad g6.b.xs.length g6.b.c] ∧
(GSl.at IntKind.i8 g6.a w111 ∧ GSl.at IntKind.i32 g6.b w111) ∧
∀ (x5 : Bool) (w'5 : World),
x5 = decide (formsR g6.b.xs = g6.a.xs) ∧ Ext w111 w'5 → ∃ (c : Unit), Value.bool x5 = Value.bool true ∧ Ext w w'5)
(∃ (c : Unit), Value.bool false = Value.bool true ∧ Ext w w'4))
(∃ (c : Unit), Value.bool false = Value.bool true ∧ Ext w w'3))
(∃ (c : Unit), Value.bool false = Value.bool true ∧ Ext w w'2))
(∃ (c : Unit), Value.bool false = Value.bool true ∧ Ext w w'1))
(∃ (c : Unit), Value.bool false = Value.bool true ∧ Ext w w')) ∧
∀ (u : Nat → Value) (c : Unit) (w' : World),
Ext w w' →
(∃ (g1 : Int × Int),
#[Value.int IntKind.i32 (1575 : Int), Value.int IntKind.i8 (1 : Int)] =
#[Value.int IntKind.i32 g1.fst, Value.int IntKind.i8 g1.snd] ∧
True ∧
∀ (x : Int) (w'1 : World),
x = shapeOf g1.fst g1.snd ∧ Ext w' w'1 →
bcase (x == (65165 : Int))
(∃ (g2 : Int × Int),
#[Value.int IntKind.i32 (1569 : Int), Value.int IntKind.i8 (3 : Int)] =
#[Value.int IntKind.i32 g2.fst, Value.int IntKind.i8 g2.snd] ∧
True ∧
∀ (x1 : Int) (w'2 : World),
x1 = shapeOf g2.fst g2.snd ∧ Ext w'1 w'2 →
bcase (x1 == (65152 : Int))
(∃ (g3 : Int × Int),
#[Value.int IntKind.i32 (65 : Int), Value.int IntKind.i8 (3 : Int)] =
#[Value.int IntKind.i32 g3.fst, Value.int IntKind.i8 g3.snd] ∧
True ∧
∀ (x2 : Int) (w'3 : World),
x2 = shapeOf g3.fst g3.snd ∧ Ext w'2 w'3 →
bcase (x2 == (65 : Int))
(∃ (g4 : Int × Int),
#[Value.int IntKind.i32 (1576 : Int), Value.int IntKind.i8 (9 : Int)] =
#[Value.int IntKind.i32 g4.fst, Value.int IntKind.i8 g4.snd] ∧
True ∧
∀ (x3 : Int) (w'4 : World),
x3 = shapeOf g4.fst g4.snd ∧ Ext w'3 w'4 →
bcase (x3 == (65167 : Int))
(∃ (g5 : Int × Int),
#[Value.int IntKind.i32 (-1 : Int), Value.int IntKind.i8 (0 : Int)] =
#[Value.int IntKind.i32 g5.fst, Value.int IntKind.i8 g5.snd] ∧
True ∧
∀ (x4 : Int) (w'5 : World),
x4 = shapeOf g5.fst g5.snd ∧ Ext w'4 w'5 → ∃ (c1 : Unit), Value.bool (x4 == (-1 : Int)) = Value.bool true ∧ Ext w' w'5)
(∃ (c1 : Unit), Value.bool false = Value.bool true ∧ Ext w' w'4))
(∃ (c1 : Unit), Value.bool false = Value.bool true ∧ Ext w' w'3))
(∃ (c1 : Unit), Value.bool false = Value.bool true ∧ Ext w' w'2))
(∃ (c1 : Unit), Value.bool false = Value.bool true ∧ Ext w' w'1)) ∧
∀ (u1 : Nat → Value) (c1 : Unit) (w'1 : World),
Ext w' w'1 →
∀ (b : Nat) (w1 : World),
New w'1 (Obj.cells #[Value.int IntKind.i32 (1581 : Int), Value.int IntKind.i32 (1576 : Int)] (21 : Nat)) b w1 →
∃ (g1 : GSl),
#[Value.slice (some { block := b, off := (0 : Nat) }) (2 : Nat) (2 : Nat)] = #[Value.slice g1.ad g1.xs.length g1.c] ∧
GSl.at IntKind.i32 g1 w1 ∧
∀ (x : Option Addr × Nat × Nat) (w'2 : World),
x.snd.fst = (shapedR g1.xs).length ∧
Made w1 w'2 (21 : TypeId) (1 : Nat) x.fst x.snd.fst (List.map (Value.int IntKind.i32) (shapedR g1.xs)) x.snd.snd →
∀ (b1 : Nat) (w11 : World),
New w'2 (Obj.cells #[Value.int IntKind.i32 (65187 : Int), Value.int IntKind.i32 (65168 : Int)] (21 : Nat)) b1 w11 →
∃ (g2 : GTwo),
#[Value.slice x.fst x.snd.fst x.snd.snd, Value.slice (some { block := b1, off := (0 : Nat) }) (2 : Nat) (2 : Nat)] =
#[Value.slice g2.a.ad g2.a.xs.length g2.a.c, Value.slice g2.b.ad g2.b.xs.length g2.b.c] ∧
(GSl.at IntKind.i32 g2.a w11 ∧ GSl.at IntKind.i32 g2.b w11) ∧
∀ (x1 : Bool) (w'3 : World),
x1 = decide (g2.a.xs = g2.b.xs) ∧ Ext w11 w'3 →
bcase x1
(∃ (g3 : Int),
#[Value.int IntKind.i32 (-1 : Int)] = #[Value.int IntKind.i32 g3] ∧
True ∧
∀ (x2 : Option Addr × Nat × Nat) (w'4 : World),
x2.snd.fst = (plainR g3).length ∧
Made w'3 w'4 (21 : TypeId) (1 : Nat) x2.fst x2.snd.fst (List.map (Value.int IntKind.i32) (plainR g3)) x2.snd.snd →
∀ (b2 : Nat) (w12 : World),
New w'4 (Obj.cells #[Value.int IntKind.i32 (-1 : Int)] (21 : Nat)) b2 w12 →
∃ (g4 : GTwo),
#[Value.slice x2.fst x2.snd.fst x2.snd.snd, Value.slice (some { block := b2, off := (0 : Nat) }) (1 : Nat) (1 : Nat)] =
#[Value.slice g4.a.ad g4.a.xs.length g4.a.c, Value.slice g4.b.ad g4.b.xs.length g4.b.c] ∧
(GSl.at IntKind.i32 g4.a w12 ∧ GSl.at IntKind.i32 g4.b w12) ∧
∀ (x3 : Bool) (w'5 : World),
x3 = decide (g4.a.xs = g4.b.xs) ∧ Ext w12 w'5 →
bcase x3
(∃ (g5 : GSl),
#[Value.slice none (0 : Nat) (0 : Nat)] = #[Value.slice g5.ad g5.xs.length g5.c] ∧
GSl.at IntKind.i32 g5 w'5 ∧
∀ (x4 : Option Addr × Nat × Nat) (w'6 : World),
x4.snd.fst = (shapedR g5.xs).length ∧
Made w'5 w'6 (21 : TypeId) (1 : Nat) x4.fst x4.snd.fst (List.map (Value.int IntKind.i32) (shapedR g5.xs)) x4.snd.snd →
bcase ((↑x4.snd.fst : Int) == (0 : Int))
(∃ (g6 : Unit),
(#[] : Array Value) = #[] ∧
True ∧ ∀ (x5 : Unit) (w'7 : World), Ext w'6 w'7 → ∃ (x6 : Unit), Value.bool true = Value.bool true ∧ Ext w w'7)
(∃ (x5 : Unit), Value.bool false = Value.bool true ∧ Ext w w'6))
(∃ (x4 : Unit), Value.bool false = Value.bool true ∧ Ext w w'5))
(∃ (x2 : Unit), Value.bool false = Value.bool true ∧ Ext w w'3)) :
    (sYes).Ok Try.prog 9 :=
  ok_of_vc sYes annKnown11 spKnown11 (fun _ _ => rfl) (fun _ _ => rfl) hsp Try.func9 rfl (n := 0) (fun _ => rfl) (by kernel_rfl) (vcast (by kernel_rfl) h)

end Go.Proofs.Ytliihpdhoimmoaa
