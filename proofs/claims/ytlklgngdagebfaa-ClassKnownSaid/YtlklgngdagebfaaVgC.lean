/-
  Verification conditions, printed by a program out of the specifications beside this text: each theorem says that the condition suffices. (Lean's kernel compares the printed condition with what 'wpE' computes.)
-/
import Derived.Test.YtlklgngdagebfaaSpC
import Derived.Test.YtlklgngdagebfaaProg
import Derived.KernelRfl
set_option linter.unusedVariables false
namespace Go.Proofs.Ytlklgngdagebfaa
open Go Go.RowKit Vc Tb

set_option maxRecDepth 1000000 in
theorem works_vc (hsp : SpecsOk Try.prog spWorks) (h : ∀ (g : Unit) (w : World),
True →
∃ (g1 : Int),
#[Value.int IntKind.i32 (41 : Int)] = #[Value.int IntKind.i32 g1] ∧
True ∧
∀ (x : Int × Bool × Bool) (w' : World),
x = pairF g1 ∧ Ext w w' →
∃ (g2 : Int × Int),
#[Value.int IntKind.i8 (4 : Int), Value.int IntKind.i64 (3 : Int)] =
#[Value.int IntKind.i8 g2.fst, Value.int IntKind.i64 g2.snd] ∧
True ∧
∀ (x1 : Option Addr × Nat × Nat) (w'1 : World),
x1.snd.fst = (spansT g2.fst g2.snd).length ∧
Made w' w'1 (38 : TypeId) (2 : Nat) x1.fst x1.snd.fst (List.flatMap spV (spansT g2.fst g2.snd)) x1.snd.snd →
∃ (g3 : Int),
#[Value.int IntKind.i32 (97 : Int)] = #[Value.int IntKind.i32 g3] ∧
True ∧
∀ (x2 : Int) (w'2 : World),
x2 = kindR g3 ∧ Ext w'1 w'2 →
bcase (x2 == (3 : Int))
(∃ (g4 : Int),
#[Value.int IntKind.i32 (1488 : Int)] = #[Value.int IntKind.i32 g4] ∧
True ∧
∀ (x3 : Int) (w'3 : World),
x3 = dirR g4 ∧ Ext w'2 w'3 →
bcase (x3 == (1 : Int))
(∃ (g5 : Int × Bool),
#[Value.int IntKind.i32 (19968 : Int), Value.bool false] = #[Value.int IntKind.i32 g5.fst, Value.bool g5.snd] ∧
True ∧
∀ (x4 : Int) (w'4 : World),
x4 = wideR g5.fst g5.snd ∧ Ext w'3 w'4 →
bcase (x4 == (2 : Int))
(∃ (g6 : Int),
#[Value.int IntKind.i32 (769 : Int)] = #[Value.int IntKind.i32 g6] ∧
True ∧
∀ (x5 : Int) (w'5 : World),
x5 = markR g6 ∧ Ext w'4 w'5 →
bcase (x5 == (230 : Int))
(∃ (g7 : Int),
#[Value.int IntKind.i32 (1576 : Int)] = #[Value.int IntKind.i32 g7] ∧
True ∧
∀ (x6 : Int) (w'6 : World),
x6 = joinR g7 ∧ Ext w'5 w'6 →
bcase (x6 == (2 : Int))
(∃ (g8 : Int),
#[Value.int IntKind.i32 (32 : Int)] = #[Value.int IntKind.i32 g8] ∧
True ∧
∀ (x7 : Int) (w'7 : World),
x7 = brkR g8 ∧ Ext w'6 w'7 →
bcase (x7 == (1 : Int))
(∃ (g9 : Int),
#[Value.int IntKind.i32 (40 : Int)] = #[Value.int IntKind.i32 g9] ∧
True ∧
∀ (x8 : Int) (w'8 : World),
x8 = mirF g9 ∧ Ext w'7 w'8 →
bcase (x8 == (41 : Int))
(bcase (x.fst == (40 : Int))
(bcase (!x.snd.fst)
(bcase x.snd.snd
(bcase ((↑x1.snd.fst : Int) == (2 : Int))
(∃ (k : Nat),
(1 : Int) = (↑k : Int) ∧
k < x1.snd.fst ∧
ptrE x1.fst fun (b o : Nat) =>
∃ (n : Int),
w'8.cell? { block := b, off := o + k * (2 : Nat) } = some (Value.int IntKind.i32 n) ∧
∃ (n1 : Int),
w'8.cell? { block := b, off := o + k * (2 : Nat) + (1 : Nat) } = some (Value.int IntKind.i32 n1) ∧
∃ (x9 : Unit), Value.bool (n == (8205 : Int) && (n1 == (8205 : Int) && true)) = Value.bool true ∧ Ext w w'8)
(∃ (x9 : Unit), Value.bool false = Value.bool true ∧ Ext w w'8))
(∃ (x9 : Unit), Value.bool false = Value.bool true ∧ Ext w w'8))
(∃ (x9 : Unit), Value.bool false = Value.bool true ∧ Ext w w'8))
(∃ (x9 : Unit), Value.bool false = Value.bool true ∧ Ext w w'8))
(∃ (x9 : Unit), Value.bool false = Value.bool true ∧ Ext w w'8))
(∃ (x8 : Unit), Value.bool false = Value.bool true ∧ Ext w w'7))
(∃ (x7 : Unit), Value.bool false = Value.bool true ∧ Ext w w'6))
(∃ (x6 : Unit), Value.bool false = Value.bool true ∧ Ext w w'5))
(∃ (x5 : Unit), Value.bool false = Value.bool true ∧ Ext w w'4))
(∃ (x4 : Unit), Value.bool false = Value.bool true ∧ Ext w w'3))
(∃ (x3 : Unit), Value.bool false = Value.bool true ∧ Ext w w'2)) :
    (sWorks).Ok Try.prog 23 :=
  ok_of_vc sWorks (annOf spWorks) spWorks (fun _ _ => rfl) (fun _ _ => rfl) hsp Try.func23 rfl (n := 0) (fun _ => rfl) (by kernel_rfl) (vcast (by kernel_rfl) h)

set_option maxRecDepth 1000000 in
theorem lawTells_vc (hsp : SpecsOk Try.prog spTells) (h : ∀ (g : Int × Bool) (w : World),
True →
∃ (g1 : Int),
#[Value.int IntKind.i32 g.fst] = #[Value.int IntKind.i32 g1] ∧
True ∧
∀ (x : Int) (w' : World),
x = kindR g1 ∧ Ext w w' →
∃ (g2 : Int),
#[Value.int IntKind.i32 g.fst] = #[Value.int IntKind.i32 g2] ∧
True ∧
∀ (x1 : Int) (w'1 : World),
x1 = kindR g2 ∧ w'1 = w' →
bcase (x == x1)
(∃ (g3 : Int),
#[Value.int IntKind.i32 g.fst] = #[Value.int IntKind.i32 g3] ∧
True ∧
∀ (x2 : Int) (w'2 : World),
x2 = dirR g3 ∧ Ext w'1 w'2 →
∃ (g4 : Int),
#[Value.int IntKind.i32 g.fst] = #[Value.int IntKind.i32 g4] ∧
True ∧
∀ (x3 : Int) (w'3 : World),
x3 = dirR g4 ∧ w'3 = w'2 →
bcase (x2 == x3)
(∃ (g5 : Int × Bool),
#[Value.int IntKind.i32 g.fst, Value.bool g.snd] = #[Value.int IntKind.i32 g5.fst, Value.bool g5.snd] ∧
True ∧
∀ (x4 : Int) (w'4 : World),
x4 = wideR g5.fst g5.snd ∧ Ext w'3 w'4 →
∃ (g6 : Int × Bool),
#[Value.int IntKind.i32 g.fst, Value.bool g.snd] = #[Value.int IntKind.i32 g6.fst, Value.bool g6.snd] ∧
True ∧
∀ (x5 : Int) (w'5 : World),
x5 = wideR g6.fst g6.snd ∧ w'5 = w'4 →
bcase (x4 == x5)
(∃ (g7 : Int),
#[Value.int IntKind.i32 g.fst] = #[Value.int IntKind.i32 g7] ∧
True ∧
∀ (x6 : Int) (w'6 : World),
x6 = markR g7 ∧ Ext w'5 w'6 →
∃ (g8 : Int),
#[Value.int IntKind.i32 g.fst] = #[Value.int IntKind.i32 g8] ∧
True ∧
∀ (x7 : Int) (w'7 : World),
x7 = markR g8 ∧ w'7 = w'6 →
bcase (x6 == x7)
(∃ (g9 : Int),
#[Value.int IntKind.i32 g.fst] = #[Value.int IntKind.i32 g9] ∧
True ∧
∀ (x8 : Int) (w'8 : World),
x8 = joinR g9 ∧ Ext w'7 w'8 →
∃ (g10 : Int),
#[Value.int IntKind.i32 g.fst] = #[Value.int IntKind.i32 g10] ∧
True ∧
∀ (x9 : Int) (w'9 : World),
x9 = joinR g10 ∧ w'9 = w'8 →
bcase (x8 == x9)
(∃ (g11 : Int),
#[Value.int IntKind.i32 g.fst] = #[Value.int IntKind.i32 g11] ∧
True ∧
∀ (x10 : Int) (w'10 : World),
x10 = brkR g11 ∧ Ext w'9 w'10 →
∃ (g12 : Int),
#[Value.int IntKind.i32 g.fst] = #[Value.int IntKind.i32 g12] ∧
True ∧
∀ (x11 : Int) (w'11 : World),
x11 = brkR g12 ∧ w'11 = w'10 →
bcase (x10 == x11)
(∃ (g13 : Unit),
(#[] : Array Value) = #[] ∧
True ∧ ∀ (x12 : Unit) (w'12 : World), Ext w'11 w'12 → ∃ (x13 : Unit), Value.bool true = Value.bool true ∧ Ext w w'12)
(∃ (x12 : Unit), Value.bool false = Value.bool true ∧ Ext w w'11))
(∃ (x10 : Unit), Value.bool false = Value.bool true ∧ Ext w w'9))
(∃ (x8 : Unit), Value.bool false = Value.bool true ∧ Ext w w'7))
(∃ (x6 : Unit), Value.bool false = Value.bool true ∧ Ext w w'5))
(∃ (x4 : Unit), Value.bool false = Value.bool true ∧ Ext w w'3))
(∃ (x2 : Unit), Value.bool false = Value.bool true ∧ Ext w w'1)) :
    (sLawRB).Ok Try.prog 3 :=
  ok_of_vc sLawRB (annOf spTells) spTells (fun _ _ => rfl) (fun _ _ => rfl) hsp Try.func3 rfl (n := 2) (fun _ => rfl) (by kernel_rfl) (vcast (by kernel_rfl) h)

set_option maxRecDepth 1000000 in
theorem lawMirrors_vc (hsp : SpecsOk Try.prog spMirrors) (h : ∀ (g : Int) (w : World),
True →
∃ (g1 : Int),
#[Value.int IntKind.i32 g] = #[Value.int IntKind.i32 g1] ∧
True ∧
∀ (x : Int × Bool × Bool) (w' : World),
x = pairF g1 ∧ Ext w w' →
∃ (g2 : Int),
#[Value.int IntKind.i32 g] = #[Value.int IntKind.i32 g2] ∧
True ∧
∀ (x1 : Int × Bool × Bool) (w'1 : World),
x1 = pairF g2 ∧ Ext w' w'1 →
∃ (g3 : Int),
#[Value.int IntKind.i32 g] = #[Value.int IntKind.i32 g3] ∧
True ∧
∀ (x2 : Int) (w'2 : World),
x2 = mirF g3 ∧ Ext w'1 w'2 →
∃ (g4 : Int),
#[Value.int IntKind.i32 g] = #[Value.int IntKind.i32 g4] ∧
True ∧
∀ (x3 : Int) (w'3 : World),
x3 = mirF g4 ∧ Ext w'2 w'3 →
bcase (x2 == x3)
(bcase (x.fst == x1.fst)
(bcase (x.snd.fst == x1.snd.fst)
(bcase (x.snd.snd == x1.snd.snd)
(∃ (g5 : Unit),
(#[] : Array Value) = #[] ∧
True ∧ ∀ (x4 : Unit) (w'4 : World), Ext w'3 w'4 → ∃ (x5 : Unit), Value.bool true = Value.bool true ∧ Ext w w'4)
(∃ (x4 : Unit), Value.bool false = Value.bool true ∧ Ext w w'3))
(∃ (x4 : Unit), Value.bool false = Value.bool true ∧ Ext w w'3))
(∃ (x4 : Unit), Value.bool false = Value.bool true ∧ Ext w w'3))
(∃ (x4 : Unit), Value.bool false = Value.bool true ∧ Ext w w'3)) :
    (sLawR).Ok Try.prog 4 :=
  ok_of_vc sLawR (annOf spMirrors) spMirrors (fun _ _ => rfl) (fun _ _ => rfl) hsp Try.func4 rfl (n := 1) (fun _ => rfl) (by kernel_rfl) (vcast (by kernel_rfl) h)

set_option maxRecDepth 1000000 in
theorem lawTexts_vc (hsp : SpecsOk Try.prog spTexts) (h : ∀ (g : GTx) (w : World),
CellsAt w g.l.ad (List.map (Value.int IntKind.i32) g.l.xs) ∧ g.l.xs.length ≤ (35184372087808 : Nat) →
∀ (b : Nat) (w1 : World),
New w (Obj.stringIter g.s (0 : Nat)) b w1 →
(∃ (x : Nat),
x ≤ g.s.size + (4 : Nat) ∧
Fr (fun (q : Nat) => q = ptrOf (Value.pointer (some { block := b, off := (0 : Nat) }))) w1 w1 ∧
Value.pointer (some { block := b, off := (0 : Nat) }) =
Value.pointer (some { block := ptrOf (Value.pointer (some { block := b, off := (0 : Nat) })), off := (0 : Nat) }) ∧
w1.heap[ptrOf (Value.pointer (some { block := b, off := (0 : Nat) }))]? = some (Obj.stringIter g.s x)) ∧
∀ (u : Nat → Value) (x : Nat) (w' : World),
x ≤ g.s.size + (4 : Nat) ∧
Fr (fun (q : Nat) => q = ptrOf (Value.pointer (some { block := b, off := (0 : Nat) }))) w1 w' ∧
Value.pointer (some { block := b, off := (0 : Nat) }) =
Value.pointer (some { block := ptrOf (Value.pointer (some { block := b, off := (0 : Nat) })), off := (0 : Nat) }) ∧
w'.heap[ptrOf (Value.pointer (some { block := b, off := (0 : Nat) }))]? = some (Obj.stringIter g.s x) →
∃ (s : ByteArray),
∃ (i : Nat),
w'.heap[b]? = some (Obj.stringIter s i) ∧
bcase (decide (i < s.size))
(∀ (w11 : World),
Nexted w' b s i w11 →
(∃ (g1 : Int × Bool),
#[Value.int IntKind.i32 (dcR s i), Value.bool g.b] = #[Value.int IntKind.i32 g1.fst, Value.bool g1.snd] ∧
True ∧
∀ (x1 : Unit) (w'1 : World),
Ext w11 w'1 →
∃ (g2 : Int),
#[Value.int IntKind.i32 (dcR s i)] = #[Value.int IntKind.i32 g2] ∧
True ∧ ∀ (x2 : Unit) (w'2 : World), Ext w'1 w'2 → ∃ (c : Unit), Value.bool false = Value.bool false ∧ Ext w11 w'2) ∧
∀ (u1 : Nat → Value) (c : Unit) (w'1 : World),
Ext w11 w'1 →
∃ (y : Nat),
(y ≤ g.s.size + (4 : Nat) ∧
Fr (fun (q : Nat) => q = ptrOf (Value.pointer (some { block := b, off := (0 : Nat) }))) w1 w'1 ∧
Value.pointer (some { block := b, off := (0 : Nat) }) =
Value.pointer (some { block := ptrOf (Value.pointer (some { block := b, off := (0 : Nat) })), off := (0 : Nat) }) ∧
w'1.heap[ptrOf (Value.pointer (some { block := b, off := (0 : Nat) }))]? = some (Obj.stringIter g.s y)) ∧
g.s.size + (5 : Nat) - y < g.s.size + (5 : Nat) - x)
((∃ (x1 : Nat), Value.int IntKind.i64 (0 : Int) = Value.int IntKind.i64 (↑x1 : Int) ∧ x1 ≤ g.l.xs.length ∧ Ext w' w') ∧
∀ (u1 : Nat → Value) (x1 : Nat) (w'1 : World),
x1 ≤ g.l.xs.length ∧ Ext w' w'1 →
bcase (decide ((↑x1 : Int) < (↑g.l.xs.length : Int)))
(∃ (k : Nat),
(↑x1 : Int) = (↑k : Int) ∧
k < g.l.xs.length ∧
ptrE g.l.ad fun (b1 o : Nat) =>
∃ (n : Int),
w'1.cell? { block := b1, off := o + k } = some (Value.int IntKind.i32 n) ∧
(∃ (g1 : Int × Bool),
#[Value.int IntKind.i32 n, Value.bool g.b] = #[Value.int IntKind.i32 g1.fst, Value.bool g1.snd] ∧
True ∧
∀ (x2 : Unit) (w'2 : World),
Ext w'1 w'2 →
∃ (g2 : Int),
#[Value.int IntKind.i32 n] = #[Value.int IntKind.i32 g2] ∧
True ∧ ∀ (x3 : Unit) (w'3 : World), Ext w'2 w'3 → ∃ (c : Unit), Value.bool false = Value.bool false ∧ Ext w'1 w'3) ∧
∀ (u2 : Nat → Value) (c : Unit) (w'2 : World),
Ext w'1 w'2 →
InR IntKind.i64 ((↑x1 : Int) + (1 : Int)) ∧
∃ (y : Nat),
Value.int IntKind.i64 ((↑x1 : Int) + (1 : Int)) = Value.int IntKind.i64 (↑y : Int) ∧
(y ≤ g.l.xs.length ∧ Ext w' w'2) ∧ g.l.xs.length - y < g.l.xs.length - x1)
(∃ (g1 : Unit),
(#[] : Array Value) = #[] ∧
True ∧ ∀ (x2 : Unit) (w'2 : World), Ext w'1 w'2 → ∃ (x3 : Unit), Value.bool true = Value.bool true ∧ Ext w w'2))) :
    (sLawTx).Ok Try.prog 5 :=
  ok_of_vc sLawTx annTexts spTexts (fun _ _ => rfl) (fun _ _ => rfl) hsp Try.func5 rfl (n := 3) (fun _ => rfl) (by kernel_rfl) (vcast (by kernel_rfl) h)

set_option maxRecDepth 1000000 in
theorem lawSp_vc (hsp : SpecsOk Try.prog spLawSp) (h : ∀ (g : Int × Int) (w : World),
True →
∃ (g1 : Int × Int),
#[Value.int IntKind.i8 g.fst, Value.int IntKind.i64 g.snd] =
#[Value.int IntKind.i8 g1.fst, Value.int IntKind.i64 g1.snd] ∧
True ∧
∀ (x : Option Addr × Nat × Nat) (w' : World),
x.snd.fst = (spansT g1.fst g1.snd).length ∧
Made w w' (38 : TypeId) (2 : Nat) x.fst x.snd.fst (List.flatMap spV (spansT g1.fst g1.snd)) x.snd.snd →
∃ (g2 : Int × Int),
#[Value.int IntKind.i8 g.fst, Value.int IntKind.i64 g.snd] =
#[Value.int IntKind.i8 g2.fst, Value.int IntKind.i64 g2.snd] ∧
True ∧
∀ (x1 : Option Addr × Nat × Nat) (w'1 : World),
x1.snd.fst = (spansT g2.fst g2.snd).length ∧
Made w' w'1 (38 : TypeId) (2 : Nat) x1.fst x1.snd.fst (List.flatMap spV (spansT g2.fst g2.snd)) x1.snd.snd →
∃ (g3 : Int × Int),
#[Value.int IntKind.i8 g.fst, Value.int IntKind.i64 g.snd] =
#[Value.int IntKind.i8 g3.fst, Value.int IntKind.i64 g3.snd] ∧
True ∧
∀ (x2 : Option Addr × Nat × Nat) (w'2 : World),
x2.snd.fst = (spansT g3.fst g3.snd).length ∧
Made w'1 w'2 (38 : TypeId) (2 : Nat) x2.fst x2.snd.fst (List.flatMap spV (spansT g3.fst g3.snd)) x2.snd.snd →
(∃ (g4 : GSpS),
#[Value.slice x1.fst x1.snd.fst x1.snd.snd, Value.slice x.fst x.snd.fst x.snd.snd] =
#[Value.slice g4.a g4.l.length g4.ac, Value.slice g4.b g4.m.length g4.bc] ∧
(CellsAt w'2 g4.a (List.flatMap spV g4.l) ∧ CellsAt w'2 g4.b (List.flatMap spV g4.m) ∧ g4.l.length ≤ (1000000 : Nat)) ∧
∀ (x3 : Bool) (w'3 : World),
x3 = decide (g4.l = g4.m) ∧ Ext w'2 w'3 →
bcase (!x3) (∃ (c : Unit), Value.bool true = Value.bool false ∧ Ext w'2 w'3)
(∃ (g5 : GSpS),
#[Value.slice x2.fst x2.snd.fst x2.snd.snd, Value.slice x.fst x.snd.fst x.snd.snd] =
#[Value.slice g5.a g5.l.length g5.ac, Value.slice g5.b g5.m.length g5.bc] ∧
(CellsAt w'3 g5.a (List.flatMap spV g5.l) ∧ CellsAt w'3 g5.b (List.flatMap spV g5.m) ∧ g5.l.length ≤ (1000000 : Nat)) ∧
∀ (x4 : Bool) (w'4 : World),
x4 = decide (g5.l = g5.m) ∧ Ext w'3 w'4 → ∃ (c : Unit), (Value.bool !x4) = Value.bool false ∧ Ext w'2 w'4)) ∧
∀ (u : Nat → Value) (c : Unit) (w'3 : World),
Ext w'2 w'3 →
(∃ (x3 : Nat),
Value.int IntKind.i64 (0 : Int) = Value.int IntKind.i64 (↑x3 : Int) ∧
x3 ≤ (spansT g.fst g.snd).length ∧
(∃ (a5 : Option Addr),
∃ (c1 : Nat),
∃ (vs : List Value),
Value.slice x1.fst x1.snd.fst x1.snd.snd = Value.slice a5 (spansT g.fst g.snd).length c1 ∧
Row w'3 (38 : TypeId) (2 : Nat) a5 (spansT g.fst g.snd).length vs c1) ∧
Fr (blkN (Value.slice x1.fst x1.snd.fst x1.snd.snd)) w'3 w'3) ∧
∀ (u1 : Nat → Value) (x3 : Nat) (w'4 : World),
x3 ≤ (spansT g.fst g.snd).length ∧
(∃ (a5 : Option Addr),
∃ (c1 : Nat),
∃ (vs : List Value),
Value.slice x1.fst x1.snd.fst x1.snd.snd = Value.slice a5 (spansT g.fst g.snd).length c1 ∧
Row w'4 (38 : TypeId) (2 : Nat) a5 (spansT g.fst g.snd).length vs c1) ∧
Fr (blkN (Value.slice x1.fst x1.snd.fst x1.snd.snd)) w'3 w'4 →
bcase (decide ((↑x3 : Int) < (↑x1.snd.fst : Int)))
(∃ (k : Nat),
(↑x3 : Int) = (↑k : Int) ∧
k < x1.snd.fst ∧
ptrE x1.fst fun (b o : Nat) =>
true = true ∧
(∃ (old : Value), w'4.cell? { block := b, off := o + k * (2 : Nat) } = some old) ∧
w'4.frozen? { block := b, off := o + k * (2 : Nat) } = false ∧
∀ (w1 : World),
Stored w'4 { block := b, off := o + k * (2 : Nat) } (Value.int IntKind.i32 (-1 : Int)) w1 →
true = true ∧
(∃ (old : Value), w1.cell? { block := b, off := o + k * (2 : Nat) + (1 : Nat) } = some old) ∧
w1.frozen? { block := b, off := o + k * (2 : Nat) + (1 : Nat) } = false ∧
∀ (w11 : World),
Stored w1 { block := b, off := o + k * (2 : Nat) + (1 : Nat) } (Value.int IntKind.i32 (-1 : Int)) w11 →
InR IntKind.i64 ((↑x3 : Int) + (1 : Int)) ∧
∃ (y : Nat),
Value.int IntKind.i64 ((↑x3 : Int) + (1 : Int)) = Value.int IntKind.i64 (↑y : Int) ∧
(y ≤ (spansT g.fst g.snd).length ∧
(∃ (a8 : Option Addr),
∃ (c1 : Nat),
∃ (vs : List Value),
Value.slice x1.fst x1.snd.fst x1.snd.snd = Value.slice a8 (spansT g.fst g.snd).length c1 ∧
Row w11 (38 : TypeId) (2 : Nat) a8 (spansT g.fst g.snd).length vs c1) ∧
Fr (blkN (Value.slice x1.fst x1.snd.fst x1.snd.snd)) w'3 w11) ∧
(spansT g.fst g.snd).length - y < (spansT g.fst g.snd).length - x3)
(∀ (b : Nat) (w1 : World),
New w'4
(Obj.cells
#[Value.int IntKind.i32 (0 : Int), Value.int IntKind.i32 (0 : Int), Value.int IntKind.i32 (0 : Int),
Value.int IntKind.i32 (0 : Int), Value.int IntKind.i32 (0 : Int), Value.int IntKind.i32 (0 : Int)]
(38 : Nat))
b w1 →
∃ (a' : Option Addr),
∃ (c' : Nat),
∃ (w'5 : World),
AppRun Try.prog #[(34 : Nat), (34 : Nat)] (34 : Nat) (Value.slice x1.fst x1.snd.fst x1.snd.snd)
(Value.slice (some { block := b, off := (0 : Nat) }) (3 : Nat) (3 : Nat)) w1 a' (x1.snd.fst + (3 : Nat)) c' w'5 ∧
KO w1 w'5 ∧
∃ (g4 : GSpS),
#[Value.slice x2.fst x2.snd.fst x2.snd.snd, Value.slice x.fst x.snd.fst x.snd.snd] =
#[Value.slice g4.a g4.l.length g4.ac, Value.slice g4.b g4.m.length g4.bc] ∧
(CellsAt w'5 g4.a (List.flatMap spV g4.l) ∧ CellsAt w'5 g4.b (List.flatMap spV g4.m) ∧ g4.l.length ≤ (1000000 : Nat)) ∧
∀ (x4 : Bool) (w'6 : World),
x4 = decide (g4.l = g4.m) ∧ Ext w'5 w'6 →
bcase x4
(∃ (g5 : Int × Int),
#[Value.int IntKind.i8 g.fst, Value.int IntKind.i64 g.snd] =
#[Value.int IntKind.i8 g5.fst, Value.int IntKind.i64 g5.snd] ∧
True ∧
∀ (x5 : Option Addr × Nat × Nat) (w'7 : World),
x5.snd.fst = (spansT g5.fst g5.snd).length ∧
Made w'6 w'7 (38 : TypeId) (2 : Nat) x5.fst x5.snd.fst (List.flatMap spV (spansT g5.fst g5.snd)) x5.snd.snd →
∃ (g6 : GSpS),
#[Value.slice x5.fst x5.snd.fst x5.snd.snd, Value.slice x.fst x.snd.fst x.snd.snd] =
#[Value.slice g6.a g6.l.length g6.ac, Value.slice g6.b g6.m.length g6.bc] ∧
(CellsAt w'7 g6.a (List.flatMap spV g6.l) ∧ CellsAt w'7 g6.b (List.flatMap spV g6.m) ∧ g6.l.length ≤ (1000000 : Nat)) ∧
∀ (x6 : Bool) (w'8 : World),
x6 = decide (g6.l = g6.m) ∧ Ext w'7 w'8 →
bcase x6
(InR IntKind.i64 ((↑x.snd.fst : Int) + (3 : Int)) ∧
bcase ((↑(x1.snd.fst + (3 : Nat)) : Int) == (↑x.snd.fst : Int) + (3 : Int))
(∃ (g7 : Unit),
(#[] : Array Value) = #[] ∧
True ∧ ∀ (x7 : Unit) (w'9 : World), Ext w'8 w'9 → ∃ (x8 : Unit), Value.bool true = Value.bool true ∧ Ext w w'9)
(∃ (x7 : Unit), Value.bool false = Value.bool true ∧ Ext w w'8))
(∃ (x7 : Unit), Value.bool false = Value.bool true ∧ Ext w w'8))
(∃ (x5 : Unit), Value.bool false = Value.bool true ∧ Ext w w'6))) :
    (sLawTV).Ok Try.prog 6 :=
  ok_of_vc sLawTV annLawSp spLawSp (fun _ _ => rfl) (fun _ _ => rfl) hsp Try.func6 rfl (n := 2) (fun _ => rfl) (by kernel_rfl) (vcast (by kernel_rfl) h)

end Go.Proofs.Ytlklgngdagebfaa
