/-
  Texts joined by program: VgSc, VgSp, VgSb, VgSa.
-/
import Derived.Test.YthpjkgoahneldaaDoorSg07
import Derived.Test.YthpjkgoahneldaaDoorProg
import Derived.KernelRfl
import Derived.Test.YthpjkgoahneldaaDoorSg06
set_option linter.unusedVariables false
set_option linter.unusedSimpArgs false

section
/-
  Verification conditions, printed by a program out of the specifications beside this text: each theorem says that the condition suffices. (Lean's kernel compares the printed condition with what 'wpE' computes.)
-/
set_option linter.unusedVariables false
namespace Go.Proofs.YthpjkgoahneldaaDoor
open Go Go.RowKit Vc Ut Tb Cl

set_option maxRecDepth 1000000 in
theorem shows_vc (hsp : SpecsOk Tryd.prog spShows) (h : ∀ (g : GSh) (w : World),
U8 w ∧ DB w ∧ g.s.size ≤ (67108864 : Nat) →
∀ (b : Nat) (w1 : World),
New w
(Obj.cells
#[Value.int IntKind.i64 g.l.tab, Value.bool g.l.wide, Value.int IntKind.i8 g.l.want, Value.bool g.l.join,
Value.bool g.l.raw]
(57 : Nat))
b w1 →
∃ (n : Int),
w1.cell? { block := b, off := (0 : Nat) } = some (Value.int IntKind.i64 n) ∧
∃ (b1 : Bool),
w1.cell? { block := b, off := (1 : Nat) } = some (Value.bool b1) ∧
∃ (n1 : Int),
w1.cell? { block := b, off := (2 : Nat) } = some (Value.int IntKind.i8 n1) ∧
∃ (b2 : Bool),
w1.cell? { block := b, off := (3 : Nat) } = some (Value.bool b2) ∧
∃ (b3 : Bool),
w1.cell? { block := b, off := (4 : Nat) } = some (Value.bool b3) ∧
∃ (g1 : GT6),
#[Value.string g.s, Value.int IntKind.i64 g.col,
Value.agg #[Value.int IntKind.i64 n, Value.bool b1, Value.int IntKind.i8 n1, Value.bool b2, Value.bool b3]] =
#[Value.string g1.s, Value.int IntKind.i64 g1.col,
Value.agg
#[Value.int IntKind.i64 g1.l.tab, Value.bool g1.l.wide, Value.int IntKind.i8 g1.l.want, Value.bool g1.l.join,
Value.bool g1.l.raw]] ∧
(U8 w1 ∧ DB w1 ∧ g1.s.size ≤ (67108864 : Nat)) ∧
∀ (x : ByteArray × Nat) (w' : World),
x = textC g1.s g1.col g1.l ∧ Ext w1 w' →
∃ (x1 : Bool),
Value.bool (x.fst.toList == g.want.toList && (↑x.snd : Int) == g.wide) = Value.bool x1 ∧
x1 = showsB g.s g.col g.l g.want g.wide ∧ Ext w w') :
    (sShows).Ok Tryd.prog 54 :=
  ok_of_vc sShows (annOf spShows) spShows (fun _ _ => rfl) (fun _ _ => rfl) hsp Tryd.func54 rfl (n := 5) (fun _ => rfl) (by kernel_rfl) (vcast (by kernel_rfl) h)

set_option maxRecDepth 1000000 in
theorem live_vc (hsp : SpecsOk Tryd.prog spLive) (h : ∀ (g : Unit) (w : World),
UD w →
∀ (b : Nat) (w1 : World),
New w
(Obj.cells
#[Value.int IntKind.i64 (0 : Int), Value.bool false, Value.int IntKind.i8 (0 : Int), Value.bool false, Value.bool true]
(57 : Nat))
b w1 →
(∃ (g1 : GSh),
#[Value.string (ByteArray.mk #[(255 : UInt8)]), Value.int IntKind.i64 (0 : Int),
Value.agg
#[Value.int IntKind.i64 (0 : Int), Value.bool false, Value.int IntKind.i8 (0 : Int), Value.bool false,
Value.bool false],
Value.string (ByteArray.mk #[(60 : UInt8), (102 : UInt8), (102 : UInt8), (62 : UInt8)]), Value.int IntKind.i64 (4 : Int)] =
#[Value.string g1.s, Value.int IntKind.i64 g1.col,
Value.agg
#[Value.int IntKind.i64 g1.l.tab, Value.bool g1.l.wide, Value.int IntKind.i8 g1.l.want, Value.bool g1.l.join,
Value.bool g1.l.raw],
Value.string g1.want, Value.int IntKind.i64 g1.wide] ∧
(U8 w1 ∧ DB w1 ∧ g1.s.size ≤ (67108864 : Nat)) ∧
∀ (x : Bool) (w' : World),
x = showsB g1.s g1.col g1.l g1.want g1.wide ∧ Ext w1 w' →
bcase x
(∃ (g2 : GSh),
#[Value.string (ByteArray.mk #[(9 : UInt8)]), Value.int IntKind.i64 (5 : Int),
Value.agg
#[Value.int IntKind.i64 (0 : Int), Value.bool false, Value.int IntKind.i8 (0 : Int), Value.bool false,
Value.bool false],
Value.string (ByteArray.mk #[(32 : UInt8), (32 : UInt8), (32 : UInt8)]), Value.int IntKind.i64 (3 : Int)] =
#[Value.string g2.s, Value.int IntKind.i64 g2.col,
Value.agg
#[Value.int IntKind.i64 g2.l.tab, Value.bool g2.l.wide, Value.int IntKind.i8 g2.l.want, Value.bool g2.l.join,
Value.bool g2.l.raw],
Value.string g2.want, Value.int IntKind.i64 g2.wide] ∧
(U8 w' ∧ DB w' ∧ g2.s.size ≤ (67108864 : Nat)) ∧
∀ (x1 : Bool) (w'1 : World),
x1 = showsB g2.s g2.col g2.l g2.want g2.wide ∧ Ext w' w'1 →
bcase x1
(∃ (n : Int),
w'1.cell? { block := b, off := (0 : Nat) } = some (Value.int IntKind.i64 n) ∧
∃ (b1 : Bool),
w'1.cell? { block := b, off := (1 : Nat) } = some (Value.bool b1) ∧
∃ (n1 : Int),
w'1.cell? { block := b, off := (2 : Nat) } = some (Value.int IntKind.i8 n1) ∧
∃ (b2 : Bool),
w'1.cell? { block := b, off := (3 : Nat) } = some (Value.bool b2) ∧
∃ (b3 : Bool),
w'1.cell? { block := b, off := (4 : Nat) } = some (Value.bool b3) ∧
∃ (g3 : GSh),
#[Value.string (ByteArray.mk #[(1 : UInt8)]), Value.int IntKind.i64 (0 : Int),
Value.agg #[Value.int IntKind.i64 n, Value.bool b1, Value.int IntKind.i8 n1, Value.bool b2, Value.bool b3],
Value.string (ByteArray.mk #[(94 : UInt8), (65 : UInt8)]), Value.int IntKind.i64 (2 : Int)] =
#[Value.string g3.s, Value.int IntKind.i64 g3.col,
Value.agg
#[Value.int IntKind.i64 g3.l.tab, Value.bool g3.l.wide, Value.int IntKind.i8 g3.l.want, Value.bool g3.l.join,
Value.bool g3.l.raw],
Value.string g3.want, Value.int IntKind.i64 g3.wide] ∧
(U8 w'1 ∧ DB w'1 ∧ g3.s.size ≤ (67108864 : Nat)) ∧
∀ (x2 : Bool) (w'2 : World),
x2 = showsB g3.s g3.col g3.l g3.want g3.wide ∧ Ext w'1 w'2 →
bcase x2
(∃ (n2 : Int),
w'2.cell? { block := b, off := (0 : Nat) } = some (Value.int IntKind.i64 n2) ∧
∃ (b4 : Bool),
w'2.cell? { block := b, off := (1 : Nat) } = some (Value.bool b4) ∧
∃ (n3 : Int),
w'2.cell? { block := b, off := (2 : Nat) } = some (Value.int IntKind.i8 n3) ∧
∃ (b5 : Bool),
w'2.cell? { block := b, off := (3 : Nat) } = some (Value.bool b5) ∧
∃ (b6 : Bool),
w'2.cell? { block := b, off := (4 : Nat) } = some (Value.bool b6) ∧
∃ (g4 : GSh),
#[Value.string (ByteArray.mk #[(226 : UInt8), (128 : UInt8), (174 : UInt8)]), Value.int IntKind.i64 (0 : Int),
Value.agg #[Value.int IntKind.i64 n2, Value.bool b4, Value.int IntKind.i8 n3, Value.bool b5, Value.bool b6],
Value.string (ByteArray.mk #[(60 : UInt8), (50 : UInt8), (48 : UInt8), (50 : UInt8), (101 : UInt8), (62 : UInt8)]),
Value.int IntKind.i64 (6 : Int)] =
#[Value.string g4.s, Value.int IntKind.i64 g4.col,
Value.agg
#[Value.int IntKind.i64 g4.l.tab, Value.bool g4.l.wide, Value.int IntKind.i8 g4.l.want, Value.bool g4.l.join,
Value.bool g4.l.raw],
Value.string g4.want, Value.int IntKind.i64 g4.wide] ∧
(U8 w'2 ∧ DB w'2 ∧ g4.s.size ≤ (67108864 : Nat)) ∧
∀ (x3 : Bool) (w'3 : World),
x3 = showsB g4.s g4.col g4.l g4.want g4.wide ∧ Ext w'2 w'3 →
bcase x3
(∃ (n4 : Int),
w'3.cell? { block := b, off := (0 : Nat) } = some (Value.int IntKind.i64 n4) ∧
∃ (b7 : Bool),
w'3.cell? { block := b, off := (1 : Nat) } = some (Value.bool b7) ∧
∃ (n5 : Int),
w'3.cell? { block := b, off := (2 : Nat) } = some (Value.int IntKind.i8 n5) ∧
∃ (b8 : Bool),
w'3.cell? { block := b, off := (3 : Nat) } = some (Value.bool b8) ∧
∃ (b9 : Bool),
w'3.cell? { block := b, off := (4 : Nat) } = some (Value.bool b9) ∧
∃ (g5 : GSh),
#[Value.string (ByteArray.mk #[(97 : UInt8), (204 : UInt8), (129 : UInt8), (98 : UInt8)]), Value.int IntKind.i64 (0 : Int),
Value.agg #[Value.int IntKind.i64 n4, Value.bool b7, Value.int IntKind.i8 n5, Value.bool b8, Value.bool b9],
Value.string (ByteArray.mk #[(97 : UInt8), (204 : UInt8), (129 : UInt8)]), Value.int IntKind.i64 (1 : Int)] =
#[Value.string g5.s, Value.int IntKind.i64 g5.col,
Value.agg
#[Value.int IntKind.i64 g5.l.tab, Value.bool g5.l.wide, Value.int IntKind.i8 g5.l.want, Value.bool g5.l.join,
Value.bool g5.l.raw],
Value.string g5.want, Value.int IntKind.i64 g5.wide] ∧
(U8 w'3 ∧ DB w'3 ∧ g5.s.size ≤ (67108864 : Nat)) ∧
∀ (x4 : Bool) (w'4 : World),
x4 = showsB g5.s g5.col g5.l g5.want g5.wide ∧ Ext w'3 w'4 → ∃ (c : Unit), Value.bool x4 = Value.bool true ∧ Ext w1 w'4)
(∃ (c : Unit), Value.bool false = Value.bool true ∧ Ext w1 w'3))
(∃ (c : Unit), Value.bool false = Value.bool true ∧ Ext w1 w'2))
(∃ (c : Unit), Value.bool false = Value.bool true ∧ Ext w1 w'1))
(∃ (c : Unit), Value.bool false = Value.bool true ∧ Ext w1 w')) ∧
∀ (u : Nat → Value) (c : Unit) (w' : World),
Ext w1 w' →
∃ (g1 : GT6),
#[Value.string (ByteArray.mk #[(97 : UInt8), (9 : UInt8), (98 : UInt8)]), Value.int IntKind.i64 (0 : Int),
Value.agg
#[Value.int IntKind.i64 (0 : Int), Value.bool false, Value.int IntKind.i8 (0 : Int), Value.bool false,
Value.bool false]] =
#[Value.string g1.s, Value.int IntKind.i64 g1.col,
Value.agg
#[Value.int IntKind.i64 g1.l.tab, Value.bool g1.l.wide, Value.int IntKind.i8 g1.l.want, Value.bool g1.l.join,
Value.bool g1.l.raw]] ∧
(U8 w' ∧ DB w' ∧ g1.s.size ≤ (67108864 : Nat)) ∧
∀ (x : Nat) (w'1 : World),
x = wideS g1.s g1.col g1.l ∧ Ext w' w'1 →
bcase ((↑x : Int) == (9 : Int))
(∃ (g2 : GT6),
#[Value.string (ByteArray.mk #[(97 : UInt8), (228 : UInt8), (184 : UInt8), (150 : UInt8), (98 : UInt8)]),
Value.int IntKind.i64 (2 : Int),
Value.agg
#[Value.int IntKind.i64 (0 : Int), Value.bool false, Value.int IntKind.i8 (0 : Int), Value.bool false,
Value.bool false]] =
#[Value.string g2.s, Value.int IntKind.i64 g2.col,
Value.agg
#[Value.int IntKind.i64 g2.l.tab, Value.bool g2.l.wide, Value.int IntKind.i8 g2.l.want, Value.bool g2.l.join,
Value.bool g2.l.raw]] ∧
(U8 w'1 ∧ DB w'1 ∧ g2.s.size ≤ (67108864 : Nat)) ∧
∀ (x1 : Nat) (w'2 : World),
x1 = cutP g2.s g2.col g2.l ∧ Ext w'1 w'2 →
bcase ((↑x1 : Int) == (1 : Int))
(∃ (g3 : ByteArray),
#[Value.string (ByteArray.mk #[(97 : UInt8), (10 : UInt8), (128 : UInt8)])] = #[Value.string g3] ∧
(U8 w'2 ∧ DB w'2 ∧ g3.size ≤ (67108864 : Nat)) ∧
∀ (x2 : ByteArray) (w'3 : World),
x2 = plainS g3 ∧ Ext w'2 w'3 →
bcase
(x2.toList ==
(ByteArray.mk #[(97 : UInt8), (94 : UInt8), (74 : UInt8), (60 : UInt8), (56 : UInt8), (48 : UInt8), (62 : UInt8)]).toList)
(∃ (n : Int),
w'3.cell? { block := b, off := (0 : Nat) } = some (Value.int IntKind.i64 n) ∧
∃ (b1 : Bool),
w'3.cell? { block := b, off := (1 : Nat) } = some (Value.bool b1) ∧
∃ (n1 : Int),
w'3.cell? { block := b, off := (2 : Nat) } = some (Value.int IntKind.i8 n1) ∧
∃ (b2 : Bool),
w'3.cell? { block := b, off := (3 : Nat) } = some (Value.bool b2) ∧
∃ (b3 : Bool),
w'3.cell? { block := b, off := (4 : Nat) } = some (Value.bool b3) ∧
∃ (g4 : GSh),
#[Value.string (ByteArray.mk #[(228 : UInt8), (184 : UInt8), (150 : UInt8)]), Value.int IntKind.i64 (0 : Int),
Value.agg #[Value.int IntKind.i64 n, Value.bool b1, Value.int IntKind.i8 n1, Value.bool b2, Value.bool b3],
Value.string (ByteArray.mk #[(228 : UInt8), (184 : UInt8), (150 : UInt8)]), Value.int IntKind.i64 (2 : Int)] =
#[Value.string g4.s, Value.int IntKind.i64 g4.col,
Value.agg
#[Value.int IntKind.i64 g4.l.tab, Value.bool g4.l.wide, Value.int IntKind.i8 g4.l.want, Value.bool g4.l.join,
Value.bool g4.l.raw],
Value.string g4.want, Value.int IntKind.i64 g4.wide] ∧
(U8 w'3 ∧ DB w'3 ∧ g4.s.size ≤ (67108864 : Nat)) ∧
∀ (x3 : Bool) (w'4 : World),
x3 = showsB g4.s g4.col g4.l g4.want g4.wide ∧ Ext w'3 w'4 → ∃ (x4 : Unit), Value.bool x3 = Value.bool true ∧ Ext w w'4)
(∃ (x3 : Unit), Value.bool false = Value.bool true ∧ Ext w w'3))
(∃ (x2 : Unit), Value.bool false = Value.bool true ∧ Ext w w'2))
(∃ (x1 : Unit), Value.bool false = Value.bool true ∧ Ext w w'1)) :
    ((sYes UD)).Ok Tryd.prog 47 :=
  ok_of_vc (sYes UD) annLive spLive (fun _ _ => rfl) (fun _ _ => rfl) hsp Tryd.func47 rfl (n := 0) (fun _ => rfl) (by kernel_rfl) (vcast (by kernel_rfl) h)

set_option maxRecDepth 1000000 in
theorem lawT_vc (hsp : SpecsOk Tryd.prog spLawT) (h : ∀ (g : GT6) (w : World),
U8 w ∧ DB w ∧ g.s.size ≤ (1048576 : Nat) →
∀ (b : Nat) (w1 : World),
New w
(Obj.cells
#[Value.int IntKind.i64 g.l.tab, Value.bool g.l.wide, Value.int IntKind.i8 g.l.want, Value.bool g.l.join,
Value.bool g.l.raw]
(57 : Nat))
b w1 →
(∃ (x : Nat),
Value.int IntKind.i64 (0 : Int) = Value.int IntKind.i64 (↑x : Int) ∧
x ≤ (4 : Nat) ∧
(∃ (x1 : Bool),
∃ (y : Bool),
w1.heap[ptrB (Value.pointer (some { block := b, off := (0 : Nat) }))]? =
some
(Obj.cells
#[Value.int IntKind.i64 g.l.tab, Value.bool x1, Value.int IntKind.i8 g.l.want, Value.bool g.l.join, Value.bool y]
(57 : TypeId))) ∧
w.heap.size ≤ ptrB (Value.pointer (some { block := b, off := (0 : Nat) })) ∧ Ext w w1) ∧
∀ (u : Nat → Value) (x : Nat) (w' : World),
x ≤ (4 : Nat) ∧
(∃ (x1 : Bool),
∃ (y : Bool),
w'.heap[ptrB (Value.pointer (some { block := b, off := (0 : Nat) }))]? =
some
(Obj.cells
#[Value.int IntKind.i64 g.l.tab, Value.bool x1, Value.int IntKind.i8 g.l.want, Value.bool g.l.join, Value.bool y]
(57 : TypeId))) ∧
w.heap.size ≤ ptrB (Value.pointer (some { block := b, off := (0 : Nat) })) ∧ Ext w w' →
bcase (decide ((↑x : Int) < (4 : Int)))
((0 : Int) ≤ (↑x : Int) ∧
(0 : Int) < (2 : Int) ∧
true = true ∧
(∃ (old : Value), w'.cell? { block := b, off := (1 : Nat) } = some old) ∧
w'.frozen? { block := b, off := (1 : Nat) } = false ∧
∀ (w11 : World),
Stored w' { block := b, off := (1 : Nat) } (Value.bool ((↑x : Int) % (2 : Int) == (1 : Int))) w11 →
true = true ∧
(∃ (old : Value), w11.cell? { block := b, off := (4 : Nat) } = some old) ∧
w11.frozen? { block := b, off := (4 : Nat) } = false ∧
∀ (w12 : World),
Stored w11 { block := b, off := (4 : Nat) } (Value.bool (decide ((↑x : Int) > (1 : Int)))) w12 →
∃ (n : Int),
w12.cell? { block := b, off := (0 : Nat) } = some (Value.int IntKind.i64 n) ∧
∃ (b1 : Bool),
w12.cell? { block := b, off := (1 : Nat) } = some (Value.bool b1) ∧
∃ (n1 : Int),
w12.cell? { block := b, off := (2 : Nat) } = some (Value.int IntKind.i8 n1) ∧
∃ (b2 : Bool),
w12.cell? { block := b, off := (3 : Nat) } = some (Value.bool b2) ∧
∃ (b3 : Bool),
w12.cell? { block := b, off := (4 : Nat) } = some (Value.bool b3) ∧
∃ (g1 : GT6),
#[Value.string g.s, Value.int IntKind.i64 g.col,
Value.agg #[Value.int IntKind.i64 n, Value.bool b1, Value.int IntKind.i8 n1, Value.bool b2, Value.bool b3]] =
#[Value.string g1.s, Value.int IntKind.i64 g1.col,
Value.agg
#[Value.int IntKind.i64 g1.l.tab, Value.bool g1.l.wide, Value.int IntKind.i8 g1.l.want, Value.bool g1.l.join,
Value.bool g1.l.raw]] ∧
(U8 w12 ∧ DB w12 ∧ g1.s.size ≤ (67108864 : Nat)) ∧
∀ (x1 : ByteArray × Nat) (w'1 : World),
x1 = textC g1.s g1.col g1.l ∧ Ext w12 w'1 →
∃ (n2 : Int),
w'1.cell? { block := b, off := (0 : Nat) } = some (Value.int IntKind.i64 n2) ∧
∃ (b4 : Bool),
w'1.cell? { block := b, off := (1 : Nat) } = some (Value.bool b4) ∧
∃ (n3 : Int),
w'1.cell? { block := b, off := (2 : Nat) } = some (Value.int IntKind.i8 n3) ∧
∃ (b5 : Bool),
w'1.cell? { block := b, off := (3 : Nat) } = some (Value.bool b5) ∧
∃ (b6 : Bool),
w'1.cell? { block := b, off := (4 : Nat) } = some (Value.bool b6) ∧
∃ (g2 : GT6),
#[Value.string g.s, Value.int IntKind.i64 g.col,
Value.agg #[Value.int IntKind.i64 n2, Value.bool b4, Value.int IntKind.i8 n3, Value.bool b5, Value.bool b6]] =
#[Value.string g2.s, Value.int IntKind.i64 g2.col,
Value.agg
#[Value.int IntKind.i64 g2.l.tab, Value.bool g2.l.wide, Value.int IntKind.i8 g2.l.want, Value.bool g2.l.join,
Value.bool g2.l.raw]] ∧
(U8 w'1 ∧ DB w'1 ∧ g2.s.size ≤ (67108864 : Nat)) ∧
∀ (x2 : ByteArray × Nat) (w'2 : World),
x2 = textC g2.s g2.col g2.l ∧ Ext w'1 w'2 →
bcase (!x1.fst.toList == x2.fst.toList || (↑x1.snd : Int) != (↑x2.snd : Int))
(∃ (x3 : Unit), Value.bool false = Value.bool true ∧ Ext w w'2)
(InR IntKind.i64 ((↑x : Int) + (1 : Int)) ∧
∃ (y : Nat),
Value.int IntKind.i64 ((↑x : Int) + (1 : Int)) = Value.int IntKind.i64 (↑y : Int) ∧
(y ≤ (4 : Nat) ∧
(∃ (x3 : Bool),
∃ (y1 : Bool),
w'2.heap[ptrB (Value.pointer (some { block := b, off := (0 : Nat) }))]? =
some
(Obj.cells
#[Value.int IntKind.i64 g.l.tab, Value.bool x3, Value.int IntKind.i8 g.l.want, Value.bool g.l.join, Value.bool y1]
(57 : TypeId))) ∧
w.heap.size ≤ ptrB (Value.pointer (some { block := b, off := (0 : Nat) })) ∧ Ext w w'2) ∧
(4 : Nat) - y < (4 : Nat) - x))
(∃ (g1 : Unit),
(#[] : Array Value) = #[] ∧
UD w' ∧ ∀ (x1 : Unit) (w'1 : World), Ext w' w'1 → ∃ (x2 : Unit), Value.bool true = Value.bool true ∧ Ext w w'1)) :
    (sLawT).Ok Tryd.prog 12 :=
  ok_of_vc sLawT annLawT spLawT (fun _ _ => rfl) (fun _ _ => rfl) hsp Tryd.func12 rfl (n := 3) (fun _ => rfl) (by kernel_rfl) (vcast (by kernel_rfl) h)

set_option maxRecDepth 1000000 in
theorem lawW_vc (hsp : SpecsOk Tryd.prog spLawW) (h : ∀ (g : GT6) (w : World),
U8 w ∧ DB w ∧ g.s.size ≤ (1048576 : Nat) →
∀ (b : Nat) (w1 : World),
New w
(Obj.cells
#[Value.int IntKind.i64 g.l.tab, Value.bool g.l.wide, Value.int IntKind.i8 g.l.want, Value.bool g.l.join,
Value.bool g.l.raw]
(57 : Nat))
b w1 →
∀ (w11 : World),
Drew w1 w11 →
∃ (n : Int),
w1.cell? { block := b, off := (0 : Nat) } = some (Value.int IntKind.i64 n) ∧
∃ (b1 : Bool),
w1.cell? { block := b, off := (1 : Nat) } = some (Value.bool b1) ∧
∃ (n1 : Int),
w1.cell? { block := b, off := (2 : Nat) } = some (Value.int IntKind.i8 n1) ∧
∃ (b2 : Bool),
w1.cell? { block := b, off := (3 : Nat) } = some (Value.bool b2) ∧
∃ (b3 : Bool),
w1.cell? { block := b, off := (4 : Nat) } = some (Value.bool b3) ∧
∃ (n2 : Int),
w1.cell? { block := b, off := (0 : Nat) } = some (Value.int IntKind.i64 n2) ∧
∃ (b4 : Bool),
w1.cell? { block := b, off := (1 : Nat) } = some (Value.bool b4) ∧
∃ (n3 : Int),
w1.cell? { block := b, off := (2 : Nat) } = some (Value.int IntKind.i8 n3) ∧
∃ (b5 : Bool),
w1.cell? { block := b, off := (3 : Nat) } = some (Value.bool b5) ∧
∃ (b6 : Bool),
w1.cell? { block := b, off := (4 : Nat) } = some (Value.bool b6) ∧
∃ (g1 : GT6),
#[Value.string g.s, Value.int IntKind.i64 g.col,
Value.agg #[Value.int IntKind.i64 n, Value.bool b1, Value.int IntKind.i8 n1, Value.bool b2, Value.bool b3]] =
#[Value.string g1.s, Value.int IntKind.i64 g1.col,
Value.agg
#[Value.int IntKind.i64 g1.l.tab, Value.bool g1.l.wide, Value.int IntKind.i8 g1.l.want, Value.bool g1.l.join,
Value.bool g1.l.raw]] ∧
(U8 w11 ∧ DB w11 ∧ g1.s.size ≤ (67108864 : Nat)) ∧
∀ (x : Nat) (w' : World),
x = wideS g1.s g1.col g1.l ∧ Ext w11 w' →
Below w11.heap.size w11 w' ∧
∃ (g2 : GT6),
#[Value.string g.s, Value.int IntKind.i64 g.col,
Value.agg #[Value.int IntKind.i64 n2, Value.bool b4, Value.int IntKind.i8 n3, Value.bool b5, Value.bool b6]] =
#[Value.string g2.s, Value.int IntKind.i64 g2.col,
Value.agg
#[Value.int IntKind.i64 g2.l.tab, Value.bool g2.l.wide, Value.int IntKind.i8 g2.l.want, Value.bool g2.l.join,
Value.bool g2.l.raw]] ∧
(U8 w' ∧ DB w' ∧ g2.s.size ≤ (67108864 : Nat)) ∧
∀ (x1 : Nat) (w'1 : World),
x1 = wideS g2.s g2.col g2.l ∧ Ext w' w'1 →
bcase ((↑x : Int) == (↑x1 : Int))
(∃ (g3 : Unit),
(#[] : Array Value) = #[] ∧
UD w'1 ∧ ∀ (x2 : Unit) (w'2 : World), Ext w'1 w'2 → ∃ (x3 : Unit), Value.bool true = Value.bool true ∧ Ext w w'2)
(∃ (x2 : Unit), Value.bool false = Value.bool true ∧ Ext w w'1)) :
    (sLawT).Ok Tryd.prog 13 :=
  ok_of_vc sLawT (annOf spLawW) spLawW (fun _ _ => rfl) (fun _ _ => rfl) hsp Tryd.func13 rfl (n := 3) (fun _ => rfl) (by kernel_rfl) (vcast (by kernel_rfl) h)

set_option maxRecDepth 1000000 in
theorem lawC_vc (hsp : SpecsOk Tryd.prog spLawC) (h : ∀ (g : GT6) (w : World),
U8 w ∧ DB w ∧ g.s.size ≤ (1048576 : Nat) →
∀ (b : Nat) (w1 : World),
New w
(Obj.cells
#[Value.int IntKind.i64 g.l.tab, Value.bool g.l.wide, Value.int IntKind.i8 g.l.want, Value.bool g.l.join,
Value.bool g.l.raw]
(57 : Nat))
b w1 →
∀ (w11 : World),
Drew w1 w11 →
∃ (n : Int),
w1.cell? { block := b, off := (0 : Nat) } = some (Value.int IntKind.i64 n) ∧
∃ (b1 : Bool),
w1.cell? { block := b, off := (1 : Nat) } = some (Value.bool b1) ∧
∃ (n1 : Int),
w1.cell? { block := b, off := (2 : Nat) } = some (Value.int IntKind.i8 n1) ∧
∃ (b2 : Bool),
w1.cell? { block := b, off := (3 : Nat) } = some (Value.bool b2) ∧
∃ (b3 : Bool),
w1.cell? { block := b, off := (4 : Nat) } = some (Value.bool b3) ∧
∃ (n2 : Int),
w1.cell? { block := b, off := (0 : Nat) } = some (Value.int IntKind.i64 n2) ∧
∃ (b4 : Bool),
w1.cell? { block := b, off := (1 : Nat) } = some (Value.bool b4) ∧
∃ (n3 : Int),
w1.cell? { block := b, off := (2 : Nat) } = some (Value.int IntKind.i8 n3) ∧
∃ (b5 : Bool),
w1.cell? { block := b, off := (3 : Nat) } = some (Value.bool b5) ∧
∃ (b6 : Bool),
w1.cell? { block := b, off := (4 : Nat) } = some (Value.bool b6) ∧
∃ (g1 : GT6),
#[Value.string g.s, Value.int IntKind.i64 g.col,
Value.agg #[Value.int IntKind.i64 n, Value.bool b1, Value.int IntKind.i8 n1, Value.bool b2, Value.bool b3]] =
#[Value.string g1.s, Value.int IntKind.i64 g1.col,
Value.agg
#[Value.int IntKind.i64 g1.l.tab, Value.bool g1.l.wide, Value.int IntKind.i8 g1.l.want, Value.bool g1.l.join,
Value.bool g1.l.raw]] ∧
(U8 w11 ∧ DB w11 ∧ g1.s.size ≤ (67108864 : Nat)) ∧
∀ (x : Nat) (w' : World),
x = cutP g1.s g1.col g1.l ∧ Ext w11 w' →
Below w11.heap.size w11 w' ∧
∃ (g2 : GT6),
#[Value.string g.s, Value.int IntKind.i64 g.col,
Value.agg #[Value.int IntKind.i64 n2, Value.bool b4, Value.int IntKind.i8 n3, Value.bool b5, Value.bool b6]] =
#[Value.string g2.s, Value.int IntKind.i64 g2.col,
Value.agg
#[Value.int IntKind.i64 g2.l.tab, Value.bool g2.l.wide, Value.int IntKind.i8 g2.l.want, Value.bool g2.l.join,
Value.bool g2.l.raw]] ∧
(U8 w' ∧ DB w' ∧ g2.s.size ≤ (67108864 : Nat)) ∧
∀ (x1 : Nat) (w'1 : World),
x1 = cutP g2.s g2.col g2.l ∧ Ext w' w'1 →
bcase ((↑x : Int) == (↑x1 : Int))
(∃ (g3 : Unit),
(#[] : Array Value) = #[] ∧
UD w'1 ∧ ∀ (x2 : Unit) (w'2 : World), Ext w'1 w'2 → ∃ (x3 : Unit), Value.bool true = Value.bool true ∧ Ext w w'2)
(∃ (x2 : Unit), Value.bool false = Value.bool true ∧ Ext w w'1)) :
    (sLawT).Ok Tryd.prog 14 :=
  ok_of_vc sLawT (annOf spLawC) spLawC (fun _ _ => rfl) (fun _ _ => rfl) hsp Tryd.func14 rfl (n := 3) (fun _ => rfl) (by kernel_rfl) (vcast (by kernel_rfl) h)

set_option maxRecDepth 1000000 in
theorem lawP_vc (hsp : SpecsOk Tryd.prog spLawP) (h : ∀ (g : ByteArray) (w : World),
U8 w ∧ DB w ∧ g.size ≤ (1048576 : Nat) →
∃ (g1 : ByteArray),
#[Value.string g] = #[Value.string g1] ∧
(U8 w ∧ DB w ∧ g1.size ≤ (67108864 : Nat)) ∧
∀ (x : ByteArray) (w' : World),
x = plainS g1 ∧ Ext w w' →
∃ (g2 : ByteArray),
#[Value.string g] = #[Value.string g2] ∧
(U8 w' ∧ DB w' ∧ g2.size ≤ (67108864 : Nat)) ∧
∀ (x1 : ByteArray) (w'1 : World),
x1 = plainS g2 ∧ Ext w' w'1 →
bcase (x.toList == x1.toList)
(∃ (g3 : Unit),
(#[] : Array Value) = #[] ∧
UD w'1 ∧ ∀ (x2 : Unit) (w'2 : World), Ext w'1 w'2 → ∃ (x3 : Unit), Value.bool true = Value.bool true ∧ Ext w w'2)
(∃ (x2 : Unit), Value.bool false = Value.bool true ∧ Ext w w'1)) :
    (sLawP).Ok Tryd.prog 15 :=
  ok_of_vc sLawP (annOf spLawP) spLawP (fun _ _ => rfl) (fun _ _ => rfl) hsp Tryd.func15 rfl (n := 1) (fun _ => rfl) (by kernel_rfl) (vcast (by kernel_rfl) h)

end Go.Proofs.YthpjkgoahneldaaDoor
end

section
/-
  Verification conditions, printed by a program out of the specifications beside this text: each theorem says that the condition suffices. (Lean's kernel compares the printed condition with what 'wpE' computes.)
-/
set_option linter.unusedVariables false
namespace Go.Proofs.YthpjkgoahneldaaDoor
open Go Go.RowKit Vc Ut Tb Cl

set_option maxRecDepth 1000000 in
theorem wrStr_vc (hsp : SpecsOk Tryd.prog spWrStr) (h : ∀ (g : GWr) (w : World),
bdP g.b g.p ∧
w.heap[g.b]? = some (Obj.cells #[Value.pointer g.p, Value.slice g.a g.vs.length g.c] (95 : TypeId)) ∧
Row w (5 : TypeId) (1 : Nat) g.a g.vs.length g.vs g.c ∧ g.vs.length + g.s.size ≤ (70368744177664 : Nat) →
∃ (g1 : GBd),
#[Value.pointer (some { block := g.b, off := (0 : Nat) })] =
#[Value.pointer (some { block := g1.b, off := (0 : Nat) })] ∧
(bdP g1.b g1.p ∧ w.heap[g1.b]? = some (Obj.cells #[Value.pointer g1.p, Value.slice g1.a g1.n g1.c] (95 : TypeId))) ∧
∀ (x : Unit) (w' : World),
w'.heap[g1.b]? =
some (Obj.cells #[Value.pointer (some { block := g1.b, off := (0 : Nat) }), Value.slice g1.a g1.n g1.c] (95 : TypeId)) ∧
Fr (fun (q : Nat) => q = g1.b) w w' →
∃ (a2 : Option Addr),
∃ (n : Nat),
∃ (c : Nat),
w'.cell? { block := g.b, off := (1 : Nat) } = some (Value.slice a2 n c) ∧
∃ (a' : Option Addr),
∃ (c' : Nat),
∃ (w'1 : World),
AppRun Tryd.prog #[(64 : Nat), (9 : Nat)] (64 : Nat) (Value.slice a2 n c) (Value.string g.s) w' a' (n + g.s.size) c'
w'1 ∧
KO w' w'1 ∧
true = true ∧
(∃ (old : Value), w'1.cell? { block := g.b, off := (1 : Nat) } = some old) ∧
w'1.frozen? { block := g.b, off := (1 : Nat) } = false ∧
∀ (w1 : World),
Stored w'1 { block := g.b, off := (1 : Nat) } (Value.slice a' (n + g.s.size) c') w1 →
∃ (x1 : Option Addr × Nat × Nat),
Value.tuple #[Value.int IntKind.i64 (↑g.s.size : Int), Value.nilIface] =
Value.tuple #[Value.int IntKind.i64 (↑x1.snd.snd : Int), Value.nilIface] ∧
x1.snd.snd = g.s.size ∧
w1.heap[g.b]? =
some
(Obj.cells
#[Value.pointer (some { block := g.b, off := (0 : Nat) }), Value.slice x1.fst (g.vs.length + g.s.size) x1.snd.fst]
(95 : TypeId)) ∧
Row w1 (5 : TypeId) (1 : Nat) x1.fst (g.vs.length + g.s.size) (g.vs ++ u8L g.s.data.toList) x1.snd.fst ∧
Fr (fun (q : Nat) => q = g.b ∨ blk g.a = some q) w w1 ∧
∀ (q : Nat), blk x1.fst = some q → blk g.a = some q ∨ w.heap.size ≤ q) :
    (sWrStr).Ok Tryd.prog 83 :=
  ok_of_vc sWrStr (annOf spWrStr) spWrStr (fun _ _ => rfl) (fun _ _ => rfl) hsp Tryd.func83 rfl (n := 2) (fun _ => rfl) (by kernel_rfl) (vcast (by kernel_rfl) h)

set_option maxRecDepth 1000000 in
theorem plC_vc (hsp : SpecsOk Tryd.prog spPlC) (h : ∀ (g : ByteArray) (w : World),
U8 w ∧ DB w ∧ g.size ≤ (67108864 : Nat) →
∀ (b : Nat) (w1 : World),
New w (Obj.cells #[Value.pointer none, Value.slice none (0 : Nat) (0 : Nat)] (95 : Nat)) b w1 →
∃ (g1 : ByteArray),
#[Value.string g] = #[Value.string g1] ∧
True ∧
∀ (x : Nat) (w' : World),
w1.heap.size ≤ x ∧ w'.heap[x]? = some (Obj.cells #[Value.string g1] (9 : TypeId)) ∧ Ext w1 w' →
∃ (xs : List (Nat × ByteArray)),
∃ (C : Nat → Prop),
∃ (D0 : Nat → Prop),
IterAt Tryd.prog (Value.func (Fn.func (101 : Nat)) #[] #[Value.pointer (some { block := x, off := (0 : Nat) })])
(List.map encPc xs) C w' ∧
DomOk w' C D0 ∧
BdL (ptrB (Value.pointer (some { block := b, off := (0 : Nat) }))) (plL g (0 : Nat)) D0 w' ∧
(Stab w'.heap.size fun (k : Nat) (D : Nat → Prop) (W : World) =>
BdL (ptrB (Value.pointer (some { block := b, off := (0 : Nat) }))) (plL g k) D W) ∧
(∀ (x1 : Exit), Stab w'.heap.size fun (x : Nat) (x_1 : Nat → Prop) (x_2 : World) => (1 : Nat) = (0 : Nat)) ∧
(∀ (k : Nat) (x1 : Nat × ByteArray) (D : Nat → Prop) (W : World),
xs[k]? = some x1 →
BdL (ptrB (Value.pointer (some { block := b, off := (0 : Nat) }))) (plL g k) D W →
Mid w' D0 D W →
bcase (x1.snd.toList == (ByteArray.mk #[(13 : UInt8), (10 : UInt8)]).toList)
(∃ (g2 : GWr),
#[Value.pointer (some { block := b, off := (0 : Nat) }), Value.string (ByteArray.mk #[(94 : UInt8), (77 : UInt8)])] =
#[Value.pointer (some { block := g2.b, off := (0 : Nat) }), Value.string g2.s] ∧
(bdP g2.b g2.p ∧
W.heap[g2.b]? = some (Obj.cells #[Value.pointer g2.p, Value.slice g2.a g2.vs.length g2.c] (95 : TypeId)) ∧
Row W (5 : TypeId) (1 : Nat) g2.a g2.vs.length g2.vs g2.c ∧ g2.vs.length + g2.s.size ≤ (70368744177664 : Nat)) ∧
∀ (x2 : Option Addr × Nat × Nat) (w'1 : World),
(x2.snd.snd = g2.s.size ∧
w'1.heap[g2.b]? =
some
(Obj.cells
#[Value.pointer (some { block := g2.b, off := (0 : Nat) }), Value.slice x2.fst (g2.vs.length + g2.s.size) x2.snd.fst]
(95 : TypeId)) ∧
Row w'1 (5 : TypeId) (1 : Nat) x2.fst (g2.vs.length + g2.s.size) (g2.vs ++ u8L g2.s.data.toList) x2.snd.fst ∧
Fr (fun (q : Nat) => q = g2.b ∨ blk g2.a = some q) W w'1 ∧
∀ (q : Nat), blk x2.fst = some q → blk g2.a = some q ∨ W.heap.size ≤ q) →
∃ (g3 : GWr),
#[Value.pointer (some { block := b, off := (0 : Nat) }), Value.string (ByteArray.mk #[(94 : UInt8), (74 : UInt8)])] =
#[Value.pointer (some { block := g3.b, off := (0 : Nat) }), Value.string g3.s] ∧
(bdP g3.b g3.p ∧
w'1.heap[g3.b]? = some (Obj.cells #[Value.pointer g3.p, Value.slice g3.a g3.vs.length g3.c] (95 : TypeId)) ∧
Row w'1 (5 : TypeId) (1 : Nat) g3.a g3.vs.length g3.vs g3.c ∧ g3.vs.length + g3.s.size ≤ (70368744177664 : Nat)) ∧
∀ (x3 : Option Addr × Nat × Nat) (w'2 : World),
(x3.snd.snd = g3.s.size ∧
w'2.heap[g3.b]? =
some
(Obj.cells
#[Value.pointer (some { block := g3.b, off := (0 : Nat) }), Value.slice x3.fst (g3.vs.length + g3.s.size) x3.snd.fst]
(95 : TypeId)) ∧
Row w'2 (5 : TypeId) (1 : Nat) x3.fst (g3.vs.length + g3.s.size) (g3.vs ++ u8L g3.s.data.toList) x3.snd.fst ∧
Fr (fun (q : Nat) => q = g3.b ∨ blk g3.a = some q) w'1 w'2 ∧
∀ (q : Nat), blk x3.fst = some q → blk g3.a = some q ∨ w'1.heap.size ≤ q) →
∃ (D' : Nat → Prop),
Step D W w'2 D' ∧ BdL (ptrB (Value.pointer (some { block := b, off := (0 : Nat) }))) (plL g (k + (1 : Nat))) D' w'2)
(bcase (x1.snd.toList == (ByteArray.mk #[(10 : UInt8)]).toList)
(∃ (g2 : GWr),
#[Value.pointer (some { block := b, off := (0 : Nat) }), Value.string (ByteArray.mk #[(94 : UInt8), (74 : UInt8)])] =
#[Value.pointer (some { block := g2.b, off := (0 : Nat) }), Value.string g2.s] ∧
(bdP g2.b g2.p ∧
W.heap[g2.b]? = some (Obj.cells #[Value.pointer g2.p, Value.slice g2.a g2.vs.length g2.c] (95 : TypeId)) ∧
Row W (5 : TypeId) (1 : Nat) g2.a g2.vs.length g2.vs g2.c ∧ g2.vs.length + g2.s.size ≤ (70368744177664 : Nat)) ∧
∀ (x2 : Option Addr × Nat × Nat) (w'1 : World),
(x2.snd.snd = g2.s.size ∧
w'1.heap[g2.b]? =
some
(Obj.cells
#[Value.pointer (some { block := g2.b, off := (0 : Nat) }), Value.slice x2.fst (g2.vs.length + g2.s.size) x2.snd.fst]
(95 : TypeId)) ∧
Row w'1 (5 : TypeId) (1 : Nat) x2.fst (g2.vs.length + g2.s.size) (g2.vs ++ u8L g2.s.data.toList) x2.snd.fst ∧
Fr (fun (q : Nat) => q = g2.b ∨ blk g2.a = some q) W w'1 ∧
∀ (q : Nat), blk x2.fst = some q → blk g2.a = some q ∨ W.heap.size ≤ q) →
∃ (D' : Nat → Prop),
Step D W w'1 D' ∧ BdL (ptrB (Value.pointer (some { block := b, off := (0 : Nat) }))) (plL g (k + (1 : Nat))) D' w'1)
(bcase (x1.snd.toList == (ByteArray.mk #[(9 : UInt8)]).toList)
(∃ (g2 : GWr),
#[Value.pointer (some { block := b, off := (0 : Nat) }), Value.string (ByteArray.mk #[(94 : UInt8), (73 : UInt8)])] =
#[Value.pointer (some { block := g2.b, off := (0 : Nat) }), Value.string g2.s] ∧
(bdP g2.b g2.p ∧
W.heap[g2.b]? = some (Obj.cells #[Value.pointer g2.p, Value.slice g2.a g2.vs.length g2.c] (95 : TypeId)) ∧
Row W (5 : TypeId) (1 : Nat) g2.a g2.vs.length g2.vs g2.c ∧ g2.vs.length + g2.s.size ≤ (70368744177664 : Nat)) ∧
∀ (x2 : Option Addr × Nat × Nat) (w'1 : World),
(x2.snd.snd = g2.s.size ∧
w'1.heap[g2.b]? =
some
(Obj.cells
#[Value.pointer (some { block := g2.b, off := (0 : Nat) }), Value.slice x2.fst (g2.vs.length + g2.s.size) x2.snd.fst]
(95 : TypeId)) ∧
Row w'1 (5 : TypeId) (1 : Nat) x2.fst (g2.vs.length + g2.s.size) (g2.vs ++ u8L g2.s.data.toList) x2.snd.fst ∧
Fr (fun (q : Nat) => q = g2.b ∨ blk g2.a = some q) W w'1 ∧
∀ (q : Nat), blk x2.fst = some q → blk g2.a = some q ∨ W.heap.size ≤ q) →
∃ (D' : Nat → Prop),
Step D W w'1 D' ∧ BdL (ptrB (Value.pointer (some { block := b, off := (0 : Nat) }))) (plL g (k + (1 : Nat))) D' w'1)
(∃ (g2 : GT6),
#[Value.string x1.snd, Value.int IntKind.i64 (0 : Int),
Value.agg
#[Value.int IntKind.i64 (0 : Int), Value.bool false, Value.int IntKind.i8 (0 : Int), Value.bool false,
Value.bool true]] =
#[Value.string g2.s, Value.int IntKind.i64 g2.col,
Value.agg
#[Value.int IntKind.i64 g2.l.tab, Value.bool g2.l.wide, Value.int IntKind.i8 g2.l.want, Value.bool g2.l.join,
Value.bool g2.l.raw]] ∧
(U8 W ∧ DB W ∧ g2.s.size ≤ (67108864 : Nat)) ∧
∀ (x2 : ByteArray × Nat) (w'1 : World),
x2 = textC g2.s g2.col g2.l ∧ Ext W w'1 →
∃ (g3 : GWr),
#[Value.pointer (some { block := b, off := (0 : Nat) }), Value.string x2.fst] =
#[Value.pointer (some { block := g3.b, off := (0 : Nat) }), Value.string g3.s] ∧
(bdP g3.b g3.p ∧
w'1.heap[g3.b]? = some (Obj.cells #[Value.pointer g3.p, Value.slice g3.a g3.vs.length g3.c] (95 : TypeId)) ∧
Row w'1 (5 : TypeId) (1 : Nat) g3.a g3.vs.length g3.vs g3.c ∧ g3.vs.length + g3.s.size ≤ (70368744177664 : Nat)) ∧
∀ (x3 : Option Addr × Nat × Nat) (w'2 : World),
(x3.snd.snd = g3.s.size ∧
w'2.heap[g3.b]? =
some
(Obj.cells
#[Value.pointer (some { block := g3.b, off := (0 : Nat) }), Value.slice x3.fst (g3.vs.length + g3.s.size) x3.snd.fst]
(95 : TypeId)) ∧
Row w'2 (5 : TypeId) (1 : Nat) x3.fst (g3.vs.length + g3.s.size) (g3.vs ++ u8L g3.s.data.toList) x3.snd.fst ∧
Fr (fun (q : Nat) => q = g3.b ∨ blk g3.a = some q) w'1 w'2 ∧
∀ (q : Nat), blk x3.fst = some q → blk g3.a = some q ∨ w'1.heap.size ≤ q) →
∃ (D' : Nat → Prop),
Step D W w'2 D' ∧
BdL (ptrB (Value.pointer (some { block := b, off := (0 : Nat) }))) (plL g (k + (1 : Nat))) D' w'2)))) ∧
(∀ (D : Nat → Prop) (W : World),
BdL (ptrB (Value.pointer (some { block := b, off := (0 : Nat) }))) (plL g (lenX xs)) D W →
Mid w' D0 D W →
∃ (g2 : GSb6),
#[Value.pointer (some { block := b, off := (0 : Nat) })] = #[Value.pointer (some { block := g2.b, off := (0 : Nat) })] ∧
(bdP g2.b g2.p ∧
W.heap[g2.b]? = some (Obj.cells #[Value.pointer g2.p, Value.slice g2.a g2.l.length g2.c] (95 : TypeId)) ∧
Row W (5 : TypeId) (1 : Nat) g2.a g2.l.length (u8L g2.l) g2.c ∧
g2.base ≤ g2.b ∧ ∀ (q : Nat), blk g2.a = some q → g2.base ≤ q) ∧
∀ (x1 : ByteArray) (w'1 : World),
x1 = strL g2.l ∧ Below g2.base W w'1 →
∀ (w2 : World),
Turn w.heap.size w'1 w2 → ∃ (x2 : ByteArray), Value.string x1 = Value.string x2 ∧ x2 = plainS g ∧ Ext w w2) ∧
True) :
    (sPlainC).Ok Tryd.prog 52 :=
  ok_of_vc sPlainC annPlC spPlC (fun _ _ => rfl) (fun _ _ => rfl) hsp Tryd.func52 rfl (n := 1) (fun _ => rfl) (by kernel_rfl) (vcast (by kernel_rfl) h)

set_option maxRecDepth 1000000 in
theorem plR_vc (hsp : SpecsOk Tryd.prog spPlR) (h : ∀ (g : ByteArray) (w : World),
U8 w ∧ DB w ∧ g.size ≤ (67108864 : Nat) →
∃ (g1 : ByteArray),
#[Value.string g] = #[Value.string g1] ∧
(U8 w ∧ g1.size ≤ (67108864 : Nat)) ∧
∀ (x : Option Addr × Nat × Nat) (w' : World),
x.snd.fst = ncl g1 ∧
Made w w' (44 : TypeId) (2 : Nat) x.fst x.snd.fst (List.flatMap (pcV g1) (List.range (ncl g1))) x.snd.snd →
(∃ (x1 : GNm),
Value.int IntKind.i64 (0 : Int) = Value.int IntKind.i64 (↑x1.j : Int) ∧
Value.slice none (0 : Nat) (0 : Nat) = Value.slice x1.a (u8L (plL g x1.j)).length x1.c ∧
x1.j ≤ ncl g ∧ Made w' w' (5 : TypeId) (1 : Nat) x1.a (u8L (plL g x1.j)).length (u8L (plL g x1.j)) x1.c) ∧
∀ (u : Nat → Value) (x1 : GNm) (w'1 : World),
x1.j ≤ ncl g ∧ Made w' w'1 (5 : TypeId) (1 : Nat) x1.a (u8L (plL g x1.j)).length (u8L (plL g x1.j)) x1.c →
bcase (decide ((↑x1.j : Int) < (↑x.snd.fst : Int)))
(∃ (k : Nat),
(↑x1.j : Int) = (↑k : Int) ∧
k < x.snd.fst ∧
ptrE x.fst fun (b o : Nat) =>
∃ (s : ByteArray),
w'1.cell? { block := b, off := o + k * (2 : Nat) + (1 : Nat) } = some (Value.string s) ∧
∃ (g2 : GT6),
#[Value.string s, Value.int IntKind.i64 (0 : Int),
Value.agg
#[Value.int IntKind.i64 (0 : Int), Value.bool false, Value.int IntKind.i8 (0 : Int), Value.bool false,
Value.bool true]] =
#[Value.string g2.s, Value.int IntKind.i64 g2.col,
Value.agg
#[Value.int IntKind.i64 g2.l.tab, Value.bool g2.l.wide, Value.int IntKind.i8 g2.l.want, Value.bool g2.l.join,
Value.bool g2.l.raw]] ∧
(U8 w'1 ∧ DB w'1 ∧ g2.s.size ≤ (67108864 : Nat)) ∧
∀ (x2 : ByteArray × Nat) (w'2 : World),
x2 = textC g2.s g2.col g2.l ∧ Ext w'1 w'2 →
∃ (k1 : Nat),
(↑x1.j : Int) = (↑k1 : Int) ∧
k1 < x.snd.fst ∧
ptrE x.fst fun (b1 o1 : Nat) =>
∃ (s1 : ByteArray),
w'2.cell? { block := b1, off := o1 + k1 * (2 : Nat) + (1 : Nat) } = some (Value.string s1) ∧
bcase (s1.toList == (ByteArray.mk #[(9 : UInt8)]).toList)
(∃ (a' : Option Addr),
∃ (c' : Nat),
∃ (w'3 : World),
AppRun Tryd.prog #[(64 : Nat), (9 : Nat)] (64 : Nat) (Value.slice x1.a (u8L (plL g x1.j)).length x1.c)
(Value.string (ByteArray.mk #[(94 : UInt8), (73 : UInt8)])) w'2 a'
((u8L (plL g x1.j)).length + (ByteArray.mk #[(94 : UInt8), (73 : UInt8)]).size) c' w'3 ∧
KO w'2 w'3 ∧
InR IntKind.i64 ((↑x1.j : Int) + (1 : Int)) ∧
∃ (y : GNm),
Value.int IntKind.i64 ((↑x1.j : Int) + (1 : Int)) = Value.int IntKind.i64 (↑y.j : Int) ∧
Value.slice a' ((u8L (plL g x1.j)).length + (ByteArray.mk #[(94 : UInt8), (73 : UInt8)]).size) c' =
Value.slice y.a (u8L (plL g y.j)).length y.c ∧
(y.j ≤ ncl g ∧ Made w' w'3 (5 : TypeId) (1 : Nat) y.a (u8L (plL g y.j)).length (u8L (plL g y.j)) y.c) ∧
ncl g - y.j < ncl g - x1.j)
(bcase (s1.toList == (ByteArray.mk #[(10 : UInt8)]).toList)
(∃ (a' : Option Addr),
∃ (c' : Nat),
∃ (w'3 : World),
AppRun Tryd.prog #[(64 : Nat), (9 : Nat)] (64 : Nat) (Value.slice x1.a (u8L (plL g x1.j)).length x1.c)
(Value.string (ByteArray.mk #[(94 : UInt8), (74 : UInt8)])) w'2 a'
((u8L (plL g x1.j)).length + (ByteArray.mk #[(94 : UInt8), (74 : UInt8)]).size) c' w'3 ∧
KO w'2 w'3 ∧
InR IntKind.i64 ((↑x1.j : Int) + (1 : Int)) ∧
∃ (y : GNm),
Value.int IntKind.i64 ((↑x1.j : Int) + (1 : Int)) = Value.int IntKind.i64 (↑y.j : Int) ∧
Value.slice a' ((u8L (plL g x1.j)).length + (ByteArray.mk #[(94 : UInt8), (74 : UInt8)]).size) c' =
Value.slice y.a (u8L (plL g y.j)).length y.c ∧
(y.j ≤ ncl g ∧ Made w' w'3 (5 : TypeId) (1 : Nat) y.a (u8L (plL g y.j)).length (u8L (plL g y.j)) y.c) ∧
ncl g - y.j < ncl g - x1.j)
(bcase (s1.toList == (ByteArray.mk #[(13 : UInt8), (10 : UInt8)]).toList)
(∃ (a' : Option Addr),
∃ (c' : Nat),
∃ (w'3 : World),
AppRun Tryd.prog #[(64 : Nat), (9 : Nat)] (64 : Nat) (Value.slice x1.a (u8L (plL g x1.j)).length x1.c)
(Value.string (ByteArray.mk #[(94 : UInt8), (77 : UInt8), (94 : UInt8), (74 : UInt8)])) w'2 a'
((u8L (plL g x1.j)).length + (ByteArray.mk #[(94 : UInt8), (77 : UInt8), (94 : UInt8), (74 : UInt8)]).size) c' w'3 ∧
KO w'2 w'3 ∧
InR IntKind.i64 ((↑x1.j : Int) + (1 : Int)) ∧
∃ (y : GNm),
Value.int IntKind.i64 ((↑x1.j : Int) + (1 : Int)) = Value.int IntKind.i64 (↑y.j : Int) ∧
Value.slice a' ((u8L (plL g x1.j)).length + (ByteArray.mk #[(94 : UInt8), (77 : UInt8), (94 : UInt8), (74 : UInt8)]).size)
c' =
Value.slice y.a (u8L (plL g y.j)).length y.c ∧
(y.j ≤ ncl g ∧ Made w' w'3 (5 : TypeId) (1 : Nat) y.a (u8L (plL g y.j)).length (u8L (plL g y.j)) y.c) ∧
ncl g - y.j < ncl g - x1.j)
(∃ (a' : Option Addr),
∃ (c' : Nat),
∃ (w'3 : World),
AppRun Tryd.prog #[(64 : Nat), (9 : Nat)] (64 : Nat) (Value.slice x1.a (u8L (plL g x1.j)).length x1.c)
(Value.string x2.fst) w'2 a' ((u8L (plL g x1.j)).length + x2.fst.size) c' w'3 ∧
KO w'2 w'3 ∧
InR IntKind.i64 ((↑x1.j : Int) + (1 : Int)) ∧
∃ (y : GNm),
Value.int IntKind.i64 ((↑x1.j : Int) + (1 : Int)) = Value.int IntKind.i64 (↑y.j : Int) ∧
Value.slice a' ((u8L (plL g x1.j)).length + x2.fst.size) c' = Value.slice y.a (u8L (plL g y.j)).length y.c ∧
(y.j ≤ ncl g ∧ Made w' w'3 (5 : TypeId) (1 : Nat) y.a (u8L (plL g y.j)).length (u8L (plL g y.j)) y.c) ∧
ncl g - y.j < ncl g - x1.j))))
(∃ (str : ByteArray),
BytesIn w'1 x1.a (u8L (plL g x1.j)).length str ∧
∃ (x2 : ByteArray), Value.string str = Value.string x2 ∧ x2 = plainS g ∧ Ext w w'1)) :
    (sPlainC).Ok Tryd.prog 53 :=
  ok_of_vc sPlainC annPlR spPlR (fun _ _ => rfl) (fun _ _ => rfl) hsp Tryd.func53 rfl (n := 1) (fun _ => rfl) (by kernel_rfl) (vcast (by kernel_rfl) h)

end Go.Proofs.YthpjkgoahneldaaDoor
end

section
/-
  Verification conditions, printed by a program out of the specifications beside this text: each theorem says that the condition suffices. (Lean's kernel compares the printed condition with what 'wpE' computes.)
-/
set_option linter.unusedVariables false
namespace Go.Proofs.YthpjkgoahneldaaDoor
open Go Go.RowKit Vc Ut Tb Cl

set_option maxRecDepth 1000000 in
theorem widC_vc (hsp : SpecsOk Tryd.prog spWidC) (h : ∀ (g : GT6) (w : World),
U8 w ∧ DB w ∧ g.s.size ≤ (67108864 : Nat) →
∀ (b : Nat) (w1 : World),
New w (Obj.cells #[Value.int IntKind.i64 g.col] (3 : Nat)) b w1 →
∀ (b1 : Nat) (w11 : World),
New w1
(Obj.cells
#[Value.int IntKind.i64 g.l.tab, Value.bool g.l.wide, Value.int IntKind.i8 g.l.want, Value.bool g.l.join,
Value.bool g.l.raw]
(57 : Nat))
b1 w11 →
∀ (b2 : Nat) (w12 : World),
New w11 (Obj.cells #[Value.int IntKind.i64 (0 : Int)] (3 : Nat)) b2 w12 →
true = true ∧
(∃ (old : Value), w12.cell? { block := b2, off := (0 : Nat) } = some old) ∧
w12.frozen? { block := b2, off := (0 : Nat) } = false ∧
∀ (w13 : World),
Stored w12 { block := b2, off := (0 : Nat) } (Value.int IntKind.i64 (0 : Int)) w13 →
∀ (w14 : World),
Drew w13 w14 →
∃ (n : Int),
w13.cell? { block := b1, off := (0 : Nat) } = some (Value.int IntKind.i64 n) ∧
∃ (b3 : Bool),
w13.cell? { block := b1, off := (1 : Nat) } = some (Value.bool b3) ∧
∃ (n1 : Int),
w13.cell? { block := b1, off := (2 : Nat) } = some (Value.int IntKind.i8 n1) ∧
∃ (b4 : Bool),
w13.cell? { block := b1, off := (3 : Nat) } = some (Value.bool b4) ∧
∃ (b5 : Bool),
w13.cell? { block := b1, off := (4 : Nat) } = some (Value.bool b5) ∧
∃ (n2 : Int),
w13.cell? { block := b, off := (0 : Nat) } = some (Value.int IntKind.i64 n2) ∧
∃ (n3 : Int),
w13.cell? { block := b1, off := (0 : Nat) } = some (Value.int IntKind.i64 n3) ∧
∃ (b6 : Bool),
w13.cell? { block := b1, off := (1 : Nat) } = some (Value.bool b6) ∧
∃ (n4 : Int),
w13.cell? { block := b1, off := (2 : Nat) } = some (Value.int IntKind.i8 n4) ∧
∃ (b7 : Bool),
w13.cell? { block := b1, off := (3 : Nat) } = some (Value.bool b7) ∧
∃ (b8 : Bool),
w13.cell? { block := b1, off := (4 : Nat) } = some (Value.bool b8) ∧
∃ (g1 : Int × Lk),
#[Value.int IntKind.i64 (0 : Int),
Value.agg #[Value.int IntKind.i64 n, Value.bool b3, Value.int IntKind.i8 n1, Value.bool b4, Value.bool b5]] =
#[Value.int IntKind.i64 g1.fst,
Value.agg
#[Value.int IntKind.i64 g1.snd.tab, Value.bool g1.snd.wide, Value.int IntKind.i8 g1.snd.want, Value.bool g1.snd.join,
Value.bool g1.snd.raw]] ∧
True ∧
∀ (x : Nat) (w' : World),
x = stopN g1.fst g1.snd.tab ∧ Ext w14 w' →
Below w14.heap.size w14 w' ∧
∃ (g2 : Int × Lk),
#[Value.int IntKind.i64 n2,
Value.agg #[Value.int IntKind.i64 n3, Value.bool b6, Value.int IntKind.i8 n4, Value.bool b7, Value.bool b8]] =
#[Value.int IntKind.i64 g2.fst,
Value.agg
#[Value.int IntKind.i64 g2.snd.tab, Value.bool g2.snd.wide, Value.int IntKind.i8 g2.snd.want, Value.bool g2.snd.join,
Value.bool g2.snd.raw]] ∧
True ∧
∀ (x1 : Nat) (w'1 : World),
x1 = stopN g2.fst g2.snd.tab ∧ Ext w' w'1 →
InR IntKind.i64 ((↑x : Int) - (↑x1 : Int)) ∧
true = true ∧
(∃ (old : Value), w'1.cell? { block := b, off := (0 : Nat) } = some old) ∧
w'1.frozen? { block := b, off := (0 : Nat) } = false ∧
∀ (w15 : World),
Stored w'1 { block := b, off := (0 : Nat) } (Value.int IntKind.i64 ((↑x : Int) - (↑x1 : Int))) w15 →
∃ (g3 : ByteArray),
#[Value.string g.s] = #[Value.string g3] ∧
True ∧
∀ (x2 : Nat) (w'2 : World),
w15.heap.size ≤ x2 ∧ w'2.heap[x2]? = some (Obj.cells #[Value.string g3] (9 : TypeId)) ∧ Ext w15 w'2 →
∃ (xs : List (Nat × ByteArray)),
∃ (C : Nat → Prop),
∃ (D0 : Nat → Prop),
IterAt Tryd.prog (Value.func (Fn.func (101 : Nat)) #[] #[Value.pointer (some { block := x2, off := (0 : Nat) })])
(List.map encPc xs) C w'2 ∧
DomOk w'2 C D0 ∧
(D0 = ones [ptrB (Value.pointer (some { block := b2, off := (0 : Nat) }))] ∧
w'2.heap[ptrB (Value.pointer (some { block := b2, off := (0 : Nat) }))]? =
some (Obj.cells #[Value.int IntKind.i64 (↑(wdU g.s (redC g.col g.l) g.l (0 : Nat)) : Int)] (3 : TypeId))) ∧
(Stab w'2.heap.size fun (k : Nat) (D : Nat → Prop) (W : World) =>
D = ones [ptrB (Value.pointer (some { block := b2, off := (0 : Nat) }))] ∧
W.heap[ptrB (Value.pointer (some { block := b2, off := (0 : Nat) }))]? =
some (Obj.cells #[Value.int IntKind.i64 (↑(wdU g.s (redC g.col g.l) g.l k) : Int)] (3 : TypeId))) ∧
(∀ (x3 : Exit), Stab w'2.heap.size fun (x : Nat) (x_1 : Nat → Prop) (x_2 : World) => (1 : Nat) = (0 : Nat)) ∧
(∀ (k : Nat) (x3 : Nat × ByteArray) (D : Nat → Prop) (W : World),
xs[k]? = some x3 →
D = ones [ptrB (Value.pointer (some { block := b2, off := (0 : Nat) }))] ∧
W.heap[ptrB (Value.pointer (some { block := b2, off := (0 : Nat) }))]? =
some (Obj.cells #[Value.int IntKind.i64 (↑(wdU g.s (redC g.col g.l) g.l k) : Int)] (3 : TypeId)) →
Mid w'2 D0 D W →
∃ (n5 : Int),
W.cell? { block := b, off := (0 : Nat) } = some (Value.int IntKind.i64 n5) ∧
∃ (n6 : Int),
W.cell? { block := b2, off := (0 : Nat) } = some (Value.int IntKind.i64 n6) ∧
InR IntKind.i64 (n5 + n6) ∧
∃ (n7 : Int),
W.cell? { block := b1, off := (0 : Nat) } = some (Value.int IntKind.i64 n7) ∧
∃ (b9 : Bool),
W.cell? { block := b1, off := (1 : Nat) } = some (Value.bool b9) ∧
∃ (n8 : Int),
W.cell? { block := b1, off := (2 : Nat) } = some (Value.int IntKind.i8 n8) ∧
∃ (b10 : Bool),
W.cell? { block := b1, off := (3 : Nat) } = some (Value.bool b10) ∧
∃ (b11 : Bool),
W.cell? { block := b1, off := (4 : Nat) } = some (Value.bool b11) ∧
∃ (g4 : GT6),
#[Value.string x3.snd, Value.int IntKind.i64 (n5 + n6),
Value.agg #[Value.int IntKind.i64 n7, Value.bool b9, Value.int IntKind.i8 n8, Value.bool b10, Value.bool b11]] =
#[Value.string g4.s, Value.int IntKind.i64 g4.col,
Value.agg
#[Value.int IntKind.i64 g4.l.tab, Value.bool g4.l.wide, Value.int IntKind.i8 g4.l.want, Value.bool g4.l.join,
Value.bool g4.l.raw]] ∧
(U8 W ∧ DB W ∧ g4.s.size ≤ (67108864 : Nat)) ∧
∀ (x4 : ByteArray × Nat) (w'3 : World),
x4 = textC g4.s g4.col g4.l ∧ Ext W w'3 →
∃ (n9 : Int),
w'3.cell? { block := b2, off := (0 : Nat) } = some (Value.int IntKind.i64 n9) ∧
InR IntKind.i64 (n9 + (↑x4.snd : Int)) ∧
true = true ∧
(∃ (old : Value), w'3.cell? { block := b2, off := (0 : Nat) } = some old) ∧
w'3.frozen? { block := b2, off := (0 : Nat) } = false ∧
∀ (w16 : World),
Stored w'3 { block := b2, off := (0 : Nat) } (Value.int IntKind.i64 (n9 + (↑x4.snd : Int))) w16 →
∃ (D' : Nat → Prop),
Step D W w16 D' ∧
D' = ones [ptrB (Value.pointer (some { block := b2, off := (0 : Nat) }))] ∧
w16.heap[ptrB (Value.pointer (some { block := b2, off := (0 : Nat) }))]? =
some (Obj.cells #[Value.int IntKind.i64 (↑(wdU g.s (redC g.col g.l) g.l (k + (1 : Nat))) : Int)] (3 : TypeId))) ∧
(∀ (D : Nat → Prop) (W : World),
D = ones [ptrB (Value.pointer (some { block := b2, off := (0 : Nat) }))] ∧
W.heap[ptrB (Value.pointer (some { block := b2, off := (0 : Nat) }))]? =
some (Obj.cells #[Value.int IntKind.i64 (↑(wdU g.s (redC g.col g.l) g.l (lenX xs)) : Int)] (3 : TypeId)) →
Mid w'2 D0 D W →
∃ (n5 : Int),
W.cell? { block := b2, off := (0 : Nat) } = some (Value.int IntKind.i64 n5) ∧
∀ (w2 : World),
Turn w.heap.size W w2 →
∃ (x3 : Nat), Value.int IntKind.i64 n5 = Value.int IntKind.i64 (↑x3 : Int) ∧ x3 = wideS g.s g.col g.l ∧ Ext w w2) ∧
True) :
    ((sTxN wideS)).Ok Tryd.prog 48 :=
  ok_of_vc (sTxN wideS) annWidC spWidC (fun _ _ => rfl) (fun _ _ => rfl) hsp Tryd.func48 rfl (n := 3) (fun _ => rfl) (by kernel_rfl) (vcast (by kernel_rfl) h)

set_option maxRecDepth 1000000 in
theorem cutC_vc (hsp : SpecsOk Tryd.prog spWidC) (h : ∀ (g : GT6) (w : World),
U8 w ∧ DB w ∧ g.s.size ≤ (67108864 : Nat) →
∀ (b : Nat) (w1 : World),
New w (Obj.cells #[Value.int IntKind.i64 g.col] (3 : Nat)) b w1 →
∀ (b1 : Nat) (w11 : World),
New w1
(Obj.cells
#[Value.int IntKind.i64 g.l.tab, Value.bool g.l.wide, Value.int IntKind.i8 g.l.want, Value.bool g.l.join,
Value.bool g.l.raw]
(57 : Nat))
b1 w11 →
∀ (b2 : Nat) (w12 : World),
New w11 (Obj.cells #[Value.int IntKind.i64 (0 : Int)] (3 : Nat)) b2 w12 →
∀ (b3 : Nat) (w13 : World),
New w12 (Obj.cells #[Value.int IntKind.i64 (0 : Int)] (3 : Nat)) b3 w13 →
∀ (b4 : Nat) (w14 : World),
New w13 (Obj.cells #[Value.int IntKind.i64 (0 : Int)] (3 : Nat)) b4 w14 →
true = true ∧
(∃ (old : Value), w14.cell? { block := b3, off := (0 : Nat) } = some old) ∧
w14.frozen? { block := b3, off := (0 : Nat) } = false ∧
∀ (w15 : World),
Stored w14 { block := b3, off := (0 : Nat) } (Value.int IntKind.i64 (0 : Int)) w15 →
true = true ∧
(∃ (old : Value), w15.cell? { block := b4, off := (0 : Nat) } = some old) ∧
w15.frozen? { block := b4, off := (0 : Nat) } = false ∧
∀ (w16 : World),
Stored w15 { block := b4, off := (0 : Nat) } (Value.int IntKind.i64 (0 : Int)) w16 →
∃ (g1 : ByteArray),
#[Value.string g.s] = #[Value.string g1] ∧
True ∧
∀ (x : Nat) (w' : World),
w16.heap.size ≤ x ∧ w'.heap[x]? = some (Obj.cells #[Value.string g1] (9 : TypeId)) ∧ Ext w16 w' →
∃ (xs : List (Nat × ByteArray)),
∃ (C : Nat → Prop),
∃ (D0 : Nat → Prop),
IterAt Tryd.prog (Value.func (Fn.func (101 : Nat)) #[] #[Value.pointer (some { block := x, off := (0 : Nat) })])
(List.map encPc xs) C w' ∧
DomOk w' C D0 ∧
(D0 =
ones
[ptrB (Value.pointer (some { block := b2, off := (0 : Nat) })),
ptrB (Value.pointer (some { block := b3, off := (0 : Nat) })),
ptrB (Value.pointer (some { block := b4, off := (0 : Nat) }))] ∧
(∀ (j : Nat), j < (0 : Nat) → ¬g.col < (↑(wdU g.s (0 : Int) g.l (j + (1 : Nat))) : Int)) ∧
(∃ (v : Int),
w'.heap[ptrB (Value.pointer (some { block := b2, off := (0 : Nat) }))]? =
some (Obj.cells #[Value.int IntKind.i64 v] (3 : TypeId))) ∧
w'.heap[ptrB (Value.pointer (some { block := b3, off := (0 : Nat) }))]? =
some (Obj.cells #[Value.int IntKind.i64 (↑(wdU g.s (0 : Int) g.l (0 : Nat)) : Int)] (3 : TypeId)) ∧
w'.heap[ptrB (Value.pointer (some { block := b4, off := (0 : Nat) }))]? =
some (Obj.cells #[Value.int IntKind.i64 (↑(bp g.s (0 : Nat)) : Int)] (3 : TypeId))) ∧
(Stab w'.heap.size fun (k : Nat) (D : Nat → Prop) (W : World) =>
D =
ones
[ptrB (Value.pointer (some { block := b2, off := (0 : Nat) })),
ptrB (Value.pointer (some { block := b3, off := (0 : Nat) })),
ptrB (Value.pointer (some { block := b4, off := (0 : Nat) }))] ∧
(∀ (j : Nat), j < k → ¬g.col < (↑(wdU g.s (0 : Int) g.l (j + (1 : Nat))) : Int)) ∧
(∃ (v : Int),
W.heap[ptrB (Value.pointer (some { block := b2, off := (0 : Nat) }))]? =
some (Obj.cells #[Value.int IntKind.i64 v] (3 : TypeId))) ∧
W.heap[ptrB (Value.pointer (some { block := b3, off := (0 : Nat) }))]? =
some (Obj.cells #[Value.int IntKind.i64 (↑(wdU g.s (0 : Int) g.l k) : Int)] (3 : TypeId)) ∧
W.heap[ptrB (Value.pointer (some { block := b4, off := (0 : Nat) }))]? =
some (Obj.cells #[Value.int IntKind.i64 (↑(bp g.s k) : Int)] (3 : TypeId))) ∧
(∀ (x1 : Exit),
Stab w'.heap.size fun (x : Nat) (D : Nat → Prop) (W : World) =>
D =
ones
[ptrB (Value.pointer (some { block := b2, off := (0 : Nat) })),
ptrB (Value.pointer (some { block := b3, off := (0 : Nat) })),
ptrB (Value.pointer (some { block := b4, off := (0 : Nat) }))] ∧
W.heap[ptrB (Value.pointer (some { block := b2, off := (0 : Nat) }))]? =
some (Obj.cells #[Value.int IntKind.i64 (↑(cutP g.s g.col g.l) : Int)] (3 : TypeId))) ∧
(∀ (k : Nat) (x1 : Nat × ByteArray) (D : Nat → Prop) (W : World),
xs[k]? = some x1 →
D =
ones
[ptrB (Value.pointer (some { block := b2, off := (0 : Nat) })),
ptrB (Value.pointer (some { block := b3, off := (0 : Nat) })),
ptrB (Value.pointer (some { block := b4, off := (0 : Nat) }))] ∧
(∀ (j : Nat), j < k → ¬g.col < (↑(wdU g.s (0 : Int) g.l (j + (1 : Nat))) : Int)) ∧
(∃ (v : Int),
W.heap[ptrB (Value.pointer (some { block := b2, off := (0 : Nat) }))]? =
some (Obj.cells #[Value.int IntKind.i64 v] (3 : TypeId))) ∧
W.heap[ptrB (Value.pointer (some { block := b3, off := (0 : Nat) }))]? =
some (Obj.cells #[Value.int IntKind.i64 (↑(wdU g.s (0 : Int) g.l k) : Int)] (3 : TypeId)) ∧
W.heap[ptrB (Value.pointer (some { block := b4, off := (0 : Nat) }))]? =
some (Obj.cells #[Value.int IntKind.i64 (↑(bp g.s k) : Int)] (3 : TypeId)) →
Mid w' D0 D W →
∃ (n : Int),
W.cell? { block := b3, off := (0 : Nat) } = some (Value.int IntKind.i64 n) ∧
∃ (n1 : Int),
W.cell? { block := b1, off := (0 : Nat) } = some (Value.int IntKind.i64 n1) ∧
∃ (b5 : Bool),
W.cell? { block := b1, off := (1 : Nat) } = some (Value.bool b5) ∧
∃ (n2 : Int),
W.cell? { block := b1, off := (2 : Nat) } = some (Value.int IntKind.i8 n2) ∧
∃ (b6 : Bool),
W.cell? { block := b1, off := (3 : Nat) } = some (Value.bool b6) ∧
∃ (b7 : Bool),
W.cell? { block := b1, off := (4 : Nat) } = some (Value.bool b7) ∧
∃ (g2 : GT6),
#[Value.string x1.snd, Value.int IntKind.i64 n,
Value.agg #[Value.int IntKind.i64 n1, Value.bool b5, Value.int IntKind.i8 n2, Value.bool b6, Value.bool b7]] =
#[Value.string g2.s, Value.int IntKind.i64 g2.col,
Value.agg
#[Value.int IntKind.i64 g2.l.tab, Value.bool g2.l.wide, Value.int IntKind.i8 g2.l.want, Value.bool g2.l.join,
Value.bool g2.l.raw]] ∧
(U8 W ∧ DB W ∧ g2.s.size ≤ (67108864 : Nat)) ∧
∀ (x2 : ByteArray × Nat) (w'1 : World),
x2 = textC g2.s g2.col g2.l ∧ Ext W w'1 →
∃ (n3 : Int),
w'1.cell? { block := b3, off := (0 : Nat) } = some (Value.int IntKind.i64 n3) ∧
InR IntKind.i64 (n3 + (↑x2.snd : Int)) ∧
true = true ∧
(∃ (old : Value), w'1.cell? { block := b3, off := (0 : Nat) } = some old) ∧
w'1.frozen? { block := b3, off := (0 : Nat) } = false ∧
∀ (w17 : World),
Stored w'1 { block := b3, off := (0 : Nat) } (Value.int IntKind.i64 (n3 + (↑x2.snd : Int))) w17 →
∃ (n4 : Int),
w17.cell? { block := b3, off := (0 : Nat) } = some (Value.int IntKind.i64 n4) ∧
∃ (n5 : Int),
w17.cell? { block := b, off := (0 : Nat) } = some (Value.int IntKind.i64 n5) ∧
bcase (decide (n4 > n5))
(∃ (n6 : Int),
w17.cell? { block := b4, off := (0 : Nat) } = some (Value.int IntKind.i64 n6) ∧
true = true ∧
(∃ (old : Value), w17.cell? { block := b2, off := (0 : Nat) } = some old) ∧
w17.frozen? { block := b2, off := (0 : Nat) } = false ∧
∀ (w18 : World),
Stored w17 { block := b2, off := (0 : Nat) } (Value.int IntKind.i64 n6) w18 →
∃ (D' : Nat → Prop),
Step D W w18 D' ∧
D' =
ones
[ptrB (Value.pointer (some { block := b2, off := (0 : Nat) })),
ptrB (Value.pointer (some { block := b3, off := (0 : Nat) })),
ptrB (Value.pointer (some { block := b4, off := (0 : Nat) }))] ∧
w18.heap[ptrB (Value.pointer (some { block := b2, off := (0 : Nat) }))]? =
some (Obj.cells #[Value.int IntKind.i64 (↑(cutP g.s g.col g.l) : Int)] (3 : TypeId)))
(InR IntKind.i64 ((↑x1.fst : Int) + (↑x1.snd.size : Int)) ∧
true = true ∧
(∃ (old : Value), w17.cell? { block := b4, off := (0 : Nat) } = some old) ∧
w17.frozen? { block := b4, off := (0 : Nat) } = false ∧
∀ (w18 : World),
Stored w17 { block := b4, off := (0 : Nat) } (Value.int IntKind.i64 ((↑x1.fst : Int) + (↑x1.snd.size : Int))) w18 →
∃ (D' : Nat → Prop),
Step D W w18 D' ∧
D' =
ones
[ptrB (Value.pointer (some { block := b2, off := (0 : Nat) })),
ptrB (Value.pointer (some { block := b3, off := (0 : Nat) })),
ptrB (Value.pointer (some { block := b4, off := (0 : Nat) }))] ∧
(∀ (j : Nat), j < k + (1 : Nat) → ¬g.col < (↑(wdU g.s (0 : Int) g.l (j + (1 : Nat))) : Int)) ∧
(∃ (v : Int),
w18.heap[ptrB (Value.pointer (some { block := b2, off := (0 : Nat) }))]? =
some (Obj.cells #[Value.int IntKind.i64 v] (3 : TypeId))) ∧
w18.heap[ptrB (Value.pointer (some { block := b3, off := (0 : Nat) }))]? =
some (Obj.cells #[Value.int IntKind.i64 (↑(wdU g.s (0 : Int) g.l (k + (1 : Nat))) : Int)] (3 : TypeId)) ∧
w18.heap[ptrB (Value.pointer (some { block := b4, off := (0 : Nat) }))]? =
some (Obj.cells #[Value.int IntKind.i64 (↑(bp g.s (k + (1 : Nat))) : Int)] (3 : TypeId)))) ∧
(∀ (D : Nat → Prop) (W : World),
D =
ones
[ptrB (Value.pointer (some { block := b2, off := (0 : Nat) })),
ptrB (Value.pointer (some { block := b3, off := (0 : Nat) })),
ptrB (Value.pointer (some { block := b4, off := (0 : Nat) }))] ∧
(∀ (j : Nat), j < lenX xs → ¬g.col < (↑(wdU g.s (0 : Int) g.l (j + (1 : Nat))) : Int)) ∧
(∃ (v : Int),
W.heap[ptrB (Value.pointer (some { block := b2, off := (0 : Nat) }))]? =
some (Obj.cells #[Value.int IntKind.i64 v] (3 : TypeId))) ∧
W.heap[ptrB (Value.pointer (some { block := b3, off := (0 : Nat) }))]? =
some (Obj.cells #[Value.int IntKind.i64 (↑(wdU g.s (0 : Int) g.l (lenX xs)) : Int)] (3 : TypeId)) ∧
W.heap[ptrB (Value.pointer (some { block := b4, off := (0 : Nat) }))]? =
some (Obj.cells #[Value.int IntKind.i64 (↑(bp g.s (lenX xs)) : Int)] (3 : TypeId)) →
Mid w' D0 D W →
∃ (n : Int),
W.cell? { block := b, off := (0 : Nat) } = some (Value.int IntKind.i64 n) ∧
bcase (decide (n < (0 : Int)))
(true = true ∧
(∃ (old : Value), W.cell? { block := b2, off := (0 : Nat) } = some old) ∧
W.frozen? { block := b2, off := (0 : Nat) } = false ∧
∀ (w17 : World),
Stored W { block := b2, off := (0 : Nat) } (Value.int IntKind.i64 (0 : Int)) w17 →
∃ (n1 : Int),
w17.cell? { block := b2, off := (0 : Nat) } = some (Value.int IntKind.i64 n1) ∧
∀ (w2 : World),
Turn w.heap.size w17 w2 →
∃ (x1 : Nat), Value.int IntKind.i64 n1 = Value.int IntKind.i64 (↑x1 : Int) ∧ x1 = cutP g.s g.col g.l ∧ Ext w w2)
(∃ (n1 : Int),
W.cell? { block := b4, off := (0 : Nat) } = some (Value.int IntKind.i64 n1) ∧
true = true ∧
(∃ (old : Value), W.cell? { block := b2, off := (0 : Nat) } = some old) ∧
W.frozen? { block := b2, off := (0 : Nat) } = false ∧
∀ (w17 : World),
Stored W { block := b2, off := (0 : Nat) } (Value.int IntKind.i64 n1) w17 →
∃ (n2 : Int),
w17.cell? { block := b2, off := (0 : Nat) } = some (Value.int IntKind.i64 n2) ∧
∀ (w2 : World),
Turn w.heap.size w17 w2 →
∃ (x1 : Nat), Value.int IntKind.i64 n2 = Value.int IntKind.i64 (↑x1 : Int) ∧ x1 = cutP g.s g.col g.l ∧ Ext w w2)) ∧
∀ (D : Nat → Prop) (W : World),
D =
ones
[ptrB (Value.pointer (some { block := b2, off := (0 : Nat) })),
ptrB (Value.pointer (some { block := b3, off := (0 : Nat) })),
ptrB (Value.pointer (some { block := b4, off := (0 : Nat) }))] ∧
W.heap[ptrB (Value.pointer (some { block := b2, off := (0 : Nat) }))]? =
some (Obj.cells #[Value.int IntKind.i64 (↑(cutP g.s g.col g.l) : Int)] (3 : TypeId)) →
Mid w' D0 D W →
∃ (n : Int),
W.cell? { block := b2, off := (0 : Nat) } = some (Value.int IntKind.i64 n) ∧
∀ (w2 : World),
Turn w.heap.size W w2 →
∃ (x1 : Nat), Value.int IntKind.i64 n = Value.int IntKind.i64 (↑x1 : Int) ∧ x1 = cutP g.s g.col g.l ∧ Ext w w2) :
    ((sTxN cutP)).Ok Tryd.prog 50 :=
  ok_of_vc (sTxN cutP) annCutC spWidC (fun _ _ => rfl) (fun _ _ => rfl) hsp Tryd.func50 rfl (n := 3) (fun _ => rfl) (by kernel_rfl) (vcast (by kernel_rfl) h)

set_option maxRecDepth 1000000 in
theorem rest_vc (hsp : SpecsOk Tryd.prog spRest) (h : ∀ (g : Int × Lk) (w : World),
(0 : Int) ≤ g.fst →
∀ (b : Nat) (w1 : World),
New w
(Obj.cells
#[Value.int IntKind.i64 g.snd.tab, Value.bool g.snd.wide, Value.int IntKind.i8 g.snd.want, Value.bool g.snd.join,
Value.bool g.snd.raw]
(57 : Nat))
b w1 →
∃ (n : Int),
w1.cell? { block := b, off := (0 : Nat) } = some (Value.int IntKind.i64 n) ∧
∃ (b1 : Bool),
w1.cell? { block := b, off := (1 : Nat) } = some (Value.bool b1) ∧
∃ (n1 : Int),
w1.cell? { block := b, off := (2 : Nat) } = some (Value.int IntKind.i8 n1) ∧
∃ (b2 : Bool),
w1.cell? { block := b, off := (3 : Nat) } = some (Value.bool b2) ∧
∃ (b3 : Bool),
w1.cell? { block := b, off := (4 : Nat) } = some (Value.bool b3) ∧
∃ (g1 : Int × Lk),
#[Value.int IntKind.i64 (0 : Int),
Value.agg #[Value.int IntKind.i64 n, Value.bool b1, Value.int IntKind.i8 n1, Value.bool b2, Value.bool b3]] =
#[Value.int IntKind.i64 g1.fst,
Value.agg
#[Value.int IntKind.i64 g1.snd.tab, Value.bool g1.snd.wide, Value.int IntKind.i8 g1.snd.want, Value.bool g1.snd.join,
Value.bool g1.snd.raw]] ∧
True ∧
∀ (x : Nat) (w' : World),
x = stopN g1.fst g1.snd.tab ∧ Ext w1 w' →
(0 : Int) ≤ g.fst ∧
(0 : Int) < (↑x : Int) ∧
∃ (x1 : Nat),
Value.int IntKind.i64 (g.fst % (↑x : Int)) = Value.int IntKind.i64 (↑x1 : Int) ∧
x1 = g.fst.toNat % tabN g.snd.tab ∧ Ext w w') :
    (sRest).Ok Tryd.prog 82 :=
  ok_of_vc sRest (annOf spRest) spRest (fun _ _ => rfl) (fun _ _ => rfl) hsp Tryd.func82 rfl (n := 2) (fun _ => rfl) (by kernel_rfl) (vcast (by kernel_rfl) h)

set_option maxRecDepth 1000000 in
theorem widR_vc (hsp : SpecsOk Tryd.prog spWidR) (h : ∀ (g : GT6) (w : World),
U8 w ∧ DB w ∧ g.s.size ≤ (67108864 : Nat) →
∀ (b : Nat) (w1 : World),
New w
(Obj.cells
#[Value.int IntKind.i64 g.l.tab, Value.bool g.l.wide, Value.int IntKind.i8 g.l.want, Value.bool g.l.join,
Value.bool g.l.raw]
(57 : Nat))
b w1 →
bcase (decide (g.col < (0 : Int)))
(∃ (c : Unit),
Value.int IntKind.i64 (0 : Int) = Value.int IntKind.i64 (if g.col < (0 : Int) then (0 : Int) else g.col) ∧ w1 = w1)
(∃ (c : Unit),
Value.int IntKind.i64 g.col = Value.int IntKind.i64 (if g.col < (0 : Int) then (0 : Int) else g.col) ∧ w1 = w1) ∧
∀ (u : Nat → Value) (c : Unit) (w' : World),
w' = w1 →
∃ (g1 : ByteArray),
#[Value.string g.s] = #[Value.string g1] ∧
(U8 w' ∧ g1.size ≤ (67108864 : Nat)) ∧
∀ (x : Option Addr × Nat × Nat) (w'1 : World),
x.snd.fst = ncl g1 ∧
Made w' w'1 (44 : TypeId) (2 : Nat) x.fst x.snd.fst (List.flatMap (pcV g1) (List.range (ncl g1))) x.snd.snd →
(∃ (x1 : Nat),
Value.int IntKind.i64 (0 : Int) = Value.int IntKind.i64 (↑x1 : Int) ∧
Value.int IntKind.i64 (0 : Int) = Value.int IntKind.i64 (↑(wdU g.s (redC g.col g.l) g.l x1) : Int) ∧
x1 ≤ ncl g.s ∧ Ext w'1 w'1) ∧
∀ (u1 : Nat → Value) (x1 : Nat) (w'2 : World),
x1 ≤ ncl g.s ∧ Ext w'1 w'2 →
bcase (decide ((↑x1 : Int) < (↑x.snd.fst : Int)))
(∀ (w11 : World),
Drew w'2 w11 →
∃ (k : Nat),
(↑x1 : Int) = (↑k : Int) ∧
k < x.snd.fst ∧
ptrE x.fst fun (b1 o : Nat) =>
∃ (s : ByteArray),
w'2.cell? { block := b1, off := o + k * (2 : Nat) + (1 : Nat) } = some (Value.string s) ∧
∃ (n : Int),
w'2.cell? { block := b, off := (0 : Nat) } = some (Value.int IntKind.i64 n) ∧
∃ (b2 : Bool),
w'2.cell? { block := b, off := (1 : Nat) } = some (Value.bool b2) ∧
∃ (n1 : Int),
w'2.cell? { block := b, off := (2 : Nat) } = some (Value.int IntKind.i8 n1) ∧
∃ (b3 : Bool),
w'2.cell? { block := b, off := (3 : Nat) } = some (Value.bool b3) ∧
∃ (b4 : Bool),
w'2.cell? { block := b, off := (4 : Nat) } = some (Value.bool b4) ∧
∃ (n2 : Int),
w'2.cell? { block := b, off := (0 : Nat) } = some (Value.int IntKind.i64 n2) ∧
∃ (b5 : Bool),
w'2.cell? { block := b, off := (1 : Nat) } = some (Value.bool b5) ∧
∃ (n3 : Int),
w'2.cell? { block := b, off := (2 : Nat) } = some (Value.int IntKind.i8 n3) ∧
∃ (b6 : Bool),
w'2.cell? { block := b, off := (3 : Nat) } = some (Value.bool b6) ∧
∃ (b7 : Bool),
w'2.cell? { block := b, off := (4 : Nat) } = some (Value.bool b7) ∧
∃ (n4 : Int),
w'2.cell? { block := b, off := (0 : Nat) } = some (Value.int IntKind.i64 n4) ∧
∃ (b8 : Bool),
w'2.cell? { block := b, off := (1 : Nat) } = some (Value.bool b8) ∧
∃ (n5 : Int),
w'2.cell? { block := b, off := (2 : Nat) } = some (Value.int IntKind.i8 n5) ∧
∃ (b9 : Bool),
w'2.cell? { block := b, off := (3 : Nat) } = some (Value.bool b9) ∧
∃ (b10 : Bool),
w'2.cell? { block := b, off := (4 : Nat) } = some (Value.bool b10) ∧
∃ (g2 : Int × Lk),
#[Value.int IntKind.i64 (if g.col < (0 : Int) then (0 : Int) else g.col),
Value.agg #[Value.int IntKind.i64 n, Value.bool b2, Value.int IntKind.i8 n1, Value.bool b3, Value.bool b4]] =
#[Value.int IntKind.i64 g2.fst,
Value.agg
#[Value.int IntKind.i64 g2.snd.tab, Value.bool g2.snd.wide, Value.int IntKind.i8 g2.snd.want, Value.bool g2.snd.join,
Value.bool g2.snd.raw]] ∧
(0 : Int) ≤ g2.fst ∧
∀ (x2 : Nat) (w'3 : World),
x2 = g2.fst.toNat % tabN g2.snd.tab ∧ Ext w11 w'3 →
Below w11.heap.size w11 w'3 ∧
∃ (g3 : Int × Lk),
#[Value.int IntKind.i64 (↑(wdU g.s (redC g.col g.l) g.l x1) : Int),
Value.agg #[Value.int IntKind.i64 n2, Value.bool b5, Value.int IntKind.i8 n3, Value.bool b6, Value.bool b7]] =
#[Value.int IntKind.i64 g3.fst,
Value.agg
#[Value.int IntKind.i64 g3.snd.tab, Value.bool g3.snd.wide, Value.int IntKind.i8 g3.snd.want, Value.bool g3.snd.join,
Value.bool g3.snd.raw]] ∧
(0 : Int) ≤ g3.fst ∧
∀ (x3 : Nat) (w'4 : World),
x3 = g3.fst.toNat % tabN g3.snd.tab ∧ Ext w'3 w'4 →
Below w'3.heap.size w'3 w'4 ∧
InR IntKind.i64 ((↑x2 : Int) + (↑x3 : Int)) ∧
∃ (g4 : GT6),
#[Value.string s, Value.int IntKind.i64 ((↑x2 : Int) + (↑x3 : Int)),
Value.agg #[Value.int IntKind.i64 n4, Value.bool b8, Value.int IntKind.i8 n5, Value.bool b9, Value.bool b10]] =
#[Value.string g4.s, Value.int IntKind.i64 g4.col,
Value.agg
#[Value.int IntKind.i64 g4.l.tab, Value.bool g4.l.wide, Value.int IntKind.i8 g4.l.want, Value.bool g4.l.join,
Value.bool g4.l.raw]] ∧
(U8 w'4 ∧ DB w'4 ∧ g4.s.size ≤ (67108864 : Nat)) ∧
∀ (x4 : ByteArray × Nat) (w'5 : World),
x4 = textC g4.s g4.col g4.l ∧ Ext w'4 w'5 →
InR IntKind.i64 ((↑(wdU g.s (redC g.col g.l) g.l x1) : Int) + (↑x4.snd : Int)) ∧
InR IntKind.i64 ((↑x1 : Int) + (1 : Int)) ∧
∃ (y : Nat),
Value.int IntKind.i64 ((↑x1 : Int) + (1 : Int)) = Value.int IntKind.i64 (↑y : Int) ∧
Value.int IntKind.i64 ((↑(wdU g.s (redC g.col g.l) g.l x1) : Int) + (↑x4.snd : Int)) =
Value.int IntKind.i64 (↑(wdU g.s (redC g.col g.l) g.l y) : Int) ∧
(y ≤ ncl g.s ∧ Ext w'1 w'5) ∧ ncl g.s - y < ncl g.s - x1)
(∃ (x2 : Nat),
Value.int IntKind.i64 (↑(wdU g.s (redC g.col g.l) g.l x1) : Int) = Value.int IntKind.i64 (↑x2 : Int) ∧
x2 = wideS g.s g.col g.l ∧ Ext w w'2)) :
    ((sTxN wideS)).Ok Tryd.prog 49 :=
  ok_of_vc (sTxN wideS) annWidR spWidR (fun _ _ => rfl) (fun _ _ => rfl) hsp Tryd.func49 rfl (n := 3) (fun _ => rfl) (by kernel_rfl) (vcast (by kernel_rfl) h)

set_option maxRecDepth 1000000 in
theorem cutR_vc (hsp : SpecsOk Tryd.prog spWidR) (h : ∀ (g : GT6) (w : World),
U8 w ∧ DB w ∧ g.s.size ≤ (67108864 : Nat) →
∀ (b : Nat) (w1 : World),
New w
(Obj.cells
#[Value.int IntKind.i64 g.l.tab, Value.bool g.l.wide, Value.int IntKind.i8 g.l.want, Value.bool g.l.join,
Value.bool g.l.raw]
(57 : Nat))
b w1 →
∃ (g1 : ByteArray),
#[Value.string g.s] = #[Value.string g1] ∧
(U8 w1 ∧ g1.size ≤ (67108864 : Nat)) ∧
∀ (x : Option Addr × Nat × Nat) (w' : World),
x.snd.fst = ncl g1 ∧
Made w1 w' (44 : TypeId) (2 : Nat) x.fst x.snd.fst (List.flatMap (pcV g1) (List.range (ncl g1))) x.snd.snd →
(∃ (x1 : Nat),
Value.int IntKind.i64 (0 : Int) = Value.int IntKind.i64 (↑x1 : Int) ∧
Value.int IntKind.i64 (0 : Int) = Value.int IntKind.i64 (↑(wdU g.s (0 : Int) g.l x1) : Int) ∧
Value.int IntKind.i64 (0 : Int) = Value.int IntKind.i64 (↑(bp g.s x1) : Int) ∧
x1 ≤ ncl g.s ∧ (∀ (j : Nat), j < x1 → ¬g.col < (↑(wdU g.s (0 : Int) g.l (j + (1 : Nat))) : Int)) ∧ Ext w' w') ∧
∀ (u : Nat → Value) (x1 : Nat) (w'1 : World),
x1 ≤ ncl g.s ∧ (∀ (j : Nat), j < x1 → ¬g.col < (↑(wdU g.s (0 : Int) g.l (j + (1 : Nat))) : Int)) ∧ Ext w' w'1 →
bcase (decide ((↑x1 : Int) < (↑x.snd.fst : Int)))
(∀ (w11 : World),
Drew w'1 w11 →
∃ (k : Nat),
(↑x1 : Int) = (↑k : Int) ∧
k < x.snd.fst ∧
ptrE x.fst fun (b1 o : Nat) =>
∃ (s : ByteArray),
w'1.cell? { block := b1, off := o + k * (2 : Nat) + (1 : Nat) } = some (Value.string s) ∧
∃ (n : Int),
w'1.cell? { block := b, off := (0 : Nat) } = some (Value.int IntKind.i64 n) ∧
∃ (b2 : Bool),
w'1.cell? { block := b, off := (1 : Nat) } = some (Value.bool b2) ∧
∃ (n1 : Int),
w'1.cell? { block := b, off := (2 : Nat) } = some (Value.int IntKind.i8 n1) ∧
∃ (b3 : Bool),
w'1.cell? { block := b, off := (3 : Nat) } = some (Value.bool b3) ∧
∃ (b4 : Bool),
w'1.cell? { block := b, off := (4 : Nat) } = some (Value.bool b4) ∧
∃ (g2 : GT6),
#[Value.string s, Value.int IntKind.i64 (↑(wdU g.s (0 : Int) g.l x1) : Int),
Value.agg #[Value.int IntKind.i64 n, Value.bool b2, Value.int IntKind.i8 n1, Value.bool b3, Value.bool b4]] =
#[Value.string g2.s, Value.int IntKind.i64 g2.col,
Value.agg
#[Value.int IntKind.i64 g2.l.tab, Value.bool g2.l.wide, Value.int IntKind.i8 g2.l.want, Value.bool g2.l.join,
Value.bool g2.l.raw]] ∧
(U8 w11 ∧ DB w11 ∧ g2.s.size ≤ (67108864 : Nat)) ∧
∀ (x2 : ByteArray × Nat) (w'2 : World),
x2 = textC g2.s g2.col g2.l ∧ Ext w11 w'2 →
InR IntKind.i64 ((↑(wdU g.s (0 : Int) g.l x1) : Int) + (↑x2.snd : Int)) ∧
bcase (decide ((↑(wdU g.s (0 : Int) g.l x1) : Int) + (↑x2.snd : Int) > g.col))
(∃ (x3 : Nat),
Value.int IntKind.i64 (↑(bp g.s x1) : Int) = Value.int IntKind.i64 (↑x3 : Int) ∧ x3 = cutP g.s g.col g.l ∧ Ext w w'2)
(∀ (w12 : World),
Drew w'2 w12 →
∃ (k1 : Nat),
(↑x1 : Int) = (↑k1 : Int) ∧
k1 < x.snd.fst ∧
ptrE x.fst fun (b5 o1 : Nat) =>
∃ (n2 : Int),
w'2.cell? { block := b5, off := o1 + k1 * (2 : Nat) } = some (Value.int IntKind.i64 n2) ∧
∃ (k2 : Nat),
(↑x1 : Int) = (↑k2 : Int) ∧
k2 < x.snd.fst ∧
ptrE x.fst fun (b6 o2 : Nat) =>
∃ (s1 : ByteArray),
w'2.cell? { block := b6, off := o2 + k2 * (2 : Nat) + (1 : Nat) } = some (Value.string s1) ∧
InR IntKind.i64 (n2 + (↑s1.size : Int)) ∧
InR IntKind.i64 ((↑x1 : Int) + (1 : Int)) ∧
∃ (y : Nat),
Value.int IntKind.i64 ((↑x1 : Int) + (1 : Int)) = Value.int IntKind.i64 (↑y : Int) ∧
Value.int IntKind.i64 ((↑(wdU g.s (0 : Int) g.l x1) : Int) + (↑x2.snd : Int)) =
Value.int IntKind.i64 (↑(wdU g.s (0 : Int) g.l y) : Int) ∧
Value.int IntKind.i64 (n2 + (↑s1.size : Int)) = Value.int IntKind.i64 (↑(bp g.s y) : Int) ∧
(y ≤ ncl g.s ∧ (∀ (j : Nat), j < y → ¬g.col < (↑(wdU g.s (0 : Int) g.l (j + (1 : Nat))) : Int)) ∧ Ext w' w12) ∧
ncl g.s - y < ncl g.s - x1))
(bcase (decide (g.col < (0 : Int)))
(∃ (x2 : Nat),
Value.int IntKind.i64 (0 : Int) = Value.int IntKind.i64 (↑x2 : Int) ∧ x2 = cutP g.s g.col g.l ∧ Ext w w'1)
(∃ (x2 : Nat),
Value.int IntKind.i64 (↑(bp g.s x1) : Int) = Value.int IntKind.i64 (↑x2 : Int) ∧ x2 = cutP g.s g.col g.l ∧ Ext w w'1))) :
    ((sTxN cutP)).Ok Tryd.prog 51 :=
  ok_of_vc (sTxN cutP) annCutR spWidR (fun _ _ => rfl) (fun _ _ => rfl) hsp Tryd.func51 rfl (n := 3) (fun _ => rfl) (by kernel_rfl) (vcast (by kernel_rfl) h)

end Go.Proofs.YthpjkgoahneldaaDoor
end

section
/-
  Verification conditions, printed by a program out of the specifications beside this text: each theorem says that the condition suffices. (Lean's kernel compares the printed condition with what 'wpE' computes.)
-/
set_option linter.unusedVariables false
namespace Go.Proofs.YthpjkgoahneldaaDoor
open Go Go.RowKit Vc Ut Tb Cl

set_option maxRecDepth 1000000 in
theorem stop_vc (hsp : SpecsOk Tryd.prog []) (h : ∀ (g : Int × Lk) (w : World),
True →
∀ (b : Nat) (w1 : World),
New w
(Obj.cells
#[Value.int IntKind.i64 g.snd.tab, Value.bool g.snd.wide, Value.int IntKind.i8 g.snd.want, Value.bool g.snd.join,
Value.bool g.snd.raw]
(57 : Nat))
b w1 →
∃ (n : Int),
w1.cell? { block := b, off := (0 : Nat) } = some (Value.int IntKind.i64 n) ∧
bcase (decide (n < (1 : Int)) || decide (n > (16 : Int)))
(((0 : Int) ≤ if (0 : Int) > g.fst then (0 : Int) else g.fst) ∧
(0 : Int) < (8 : Int) ∧
InR IntKind.i64 ((8 : Int) - (if (0 : Int) > g.fst then (0 : Int) else g.fst) % (8 : Int)) ∧
∃ (x : Nat),
Value.int IntKind.i64 ((8 : Int) - (if (0 : Int) > g.fst then (0 : Int) else g.fst) % (8 : Int)) =
Value.int IntKind.i64 (↑x : Int) ∧
x = stopN g.fst g.snd.tab ∧ Ext w w1)
(((0 : Int) ≤ if (0 : Int) > g.fst then (0 : Int) else g.fst) ∧
(0 : Int) < n ∧
InR IntKind.i64 (n - (if (0 : Int) > g.fst then (0 : Int) else g.fst) % n) ∧
∃ (x : Nat),
Value.int IntKind.i64 (n - (if (0 : Int) > g.fst then (0 : Int) else g.fst) % n) = Value.int IntKind.i64 (↑x : Int) ∧
x = stopN g.fst g.snd.tab ∧ Ext w w1)) :
    (sStop).Ok Tryd.prog 81 :=
  ok_of_vc sStop (annOf []) [] (fun _ _ => rfl) (fun _ _ => rfl) hsp Tryd.func81 rfl (n := 2) (fun _ => rfl) (by kernel_rfl) (vcast (by kernel_rfl) h)

set_option maxRecDepth 1000000 in
theorem flag_vc (hsp : SpecsOk Tryd.prog []) (h : ∀ (g : Int) (w : World),
True →
∃ (x : Bool),
Value.bool (decide ((127462 : Int) ≤ g) && decide (g ≤ (127487 : Int))) = Value.bool x ∧ x = regB g ∧ Ext w w) :
    ((sRB regB)).Ok Tryd.prog 115 :=
  ok_of_vc (sRB regB) (annOf []) [] (fun _ _ => rfl) (fun _ _ => rfl) hsp Tryd.func115 rfl (n := 1) (fun _ => rfl) (by kernel_rfl) (vcast (by kernel_rfl) h)

set_option maxRecDepth 1000000 in
theorem oneT_vc (hsp : SpecsOk Tryd.prog spOneP) (h : ∀ (g : GK6) (w : World),
lateB (sg g.k (0 : Nat)) = true ∧
DB w ∧
g.k.size ≤ (67108864 : Nat) ∧
ncl g.k = (1 : Nat) ∧
isBad g.k (0 : Nat) = false ∧ cnt g.k ≤ g.c ∧ CellsAt w g.a (List.map (Value.int IntKind.i32) (runes g.k)) →
∀ (b : Nat) (w1 : World),
New w
(Obj.cells
#[Value.int IntKind.i64 g.l.tab, Value.bool g.l.wide, Value.int IntKind.i8 g.l.want, Value.bool g.l.join,
Value.bool g.l.raw]
(57 : Nat))
b w1 →
∃ (k : Nat),
(0 : Int) = (↑k : Int) ∧
k < cnt g.k ∧
ptrE g.a fun (b1 o : Nat) =>
∃ (n : Int),
w1.cell? { block := b1, off := o + k } = some (Value.int IntKind.i32 n) ∧
bcase (decide ((↑(cnt g.k) : Int) > (1 : Int)))
(∃ (k1 : Nat),
(1 : Int) = (↑k1 : Int) ∧
k1 < cnt g.k ∧
ptrE g.a fun (b2 o1 : Nat) =>
∃ (n1 : Int),
w1.cell? { block := b2, off := o1 + k1 } = some (Value.int IntKind.i32 n1) ∧
∃ (c : Unit), Value.int IntKind.i32 n1 = Value.int IntKind.i32 (secR g.k) ∧ w1 = w1)
(∃ (c : Unit), Value.int IntKind.i32 (0 : Int) = Value.int IntKind.i32 (secR g.k) ∧ w1 = w1) ∧
∀ (u : Nat → Value) (c : Unit) (w' : World),
w' = w1 →
bcase (n == (9 : Int))
(∃ (n1 : Int),
w'.cell? { block := b, off := (0 : Nat) } = some (Value.int IntKind.i64 n1) ∧
∃ (b2 : Bool),
w'.cell? { block := b, off := (1 : Nat) } = some (Value.bool b2) ∧
∃ (n2 : Int),
w'.cell? { block := b, off := (2 : Nat) } = some (Value.int IntKind.i8 n2) ∧
∃ (b3 : Bool),
w'.cell? { block := b, off := (3 : Nat) } = some (Value.bool b3) ∧
∃ (b4 : Bool),
w'.cell? { block := b, off := (4 : Nat) } = some (Value.bool b4) ∧
∃ (g1 : Int × Lk),
#[Value.int IntKind.i64 g.col,
Value.agg #[Value.int IntKind.i64 n1, Value.bool b2, Value.int IntKind.i8 n2, Value.bool b3, Value.bool b4]] =
#[Value.int IntKind.i64 g1.fst,
Value.agg
#[Value.int IntKind.i64 g1.snd.tab, Value.bool g1.snd.wide, Value.int IntKind.i8 g1.snd.want, Value.bool g1.snd.join,
Value.bool g1.snd.raw]] ∧
True ∧
∀ (x : Nat) (w'1 : World),
x = stopN g1.fst g1.snd.tab ∧ Ext w' w'1 →
∃ (g2 : Nat),
#[Value.string (ByteArray.mk #[(32 : UInt8)]), Value.int IntKind.i64 (↑x : Int)] =
#[Value.string (ByteArray.mk #[(32 : UInt8)]), Value.int IntKind.i64 (↑g2 : Int)] ∧
g2 ≤ (16 : Nat) ∧
∀ (x1 : ByteArray) (w'2 : World),
x1 = blankS g2 ∧ Ext w'1 w'2 →
∃ (x2 : ByteArray × Nat),
Value.tuple #[Value.string x1, Value.int IntKind.i64 (↑x : Int)] =
Value.tuple #[Value.string x2.fst, Value.int IntKind.i64 (↑x2.snd : Int)] ∧
x2 = oneC g.k g.col g.l ∧ Ext w w'2)
(bcase (n == (10 : Int) || secR g.k == (10 : Int))
(∃ (x : ByteArray × Nat),
Value.tuple #[Value.string (ByteArray.mk #[]), Value.int IntKind.i64 (0 : Int)] =
Value.tuple #[Value.string x.fst, Value.int IntKind.i64 (↑x.snd : Int)] ∧
x = oneC g.k g.col g.l ∧ Ext w w')
(bcase (decide (n < (32 : Int)) || n == (127 : Int))
(∀ (b2 : Nat) (w11 : World),
New w'
(Obj.cells
#[Value.int IntKind.i32
(IntKind.i32.wrap (↑(BitVec.ofInt IntKind.i32.bits n ^^^ BitVec.ofInt IntKind.i32.bits (64 : Int)).toNat : Int))]
(21 : Nat))
b2 w11 →
∃ (zs : List Int),
RunesIn w11 (some { block := b2, off := (0 : Nat) }) (1 : Nat) zs ∧
(ByteArray.mk #[(94 : UInt8)]).size + (runesBytes zs).size ≤ (9223372036854775807 : Nat) ∧
∃ (x : ByteArray × Nat),
Value.tuple #[Value.string ((ByteArray.mk #[(94 : UInt8)]) ++ runesBytes zs), Value.int IntKind.i64 (2 : Int)] =
Value.tuple #[Value.string x.fst, Value.int IntKind.i64 (↑x.snd : Int)] ∧
x = oneC g.k g.col g.l ∧ Ext w w11)
(bcase (decide ((128 : Int) ≤ n) && decide (n ≤ (159 : Int)))
(∃ (b2 : Bool),
w'.cell? { block := b, off := (4 : Nat) } = some (Value.bool b2) ∧
bcase (!b2)
(∃ (x : ByteArray × Nat),
Value.tuple #[Value.string (ByteArray.mk #[]), Value.int IntKind.i64 (0 : Int)] =
Value.tuple #[Value.string x.fst, Value.int IntKind.i64 (↑x.snd : Int)] ∧
x = oneC g.k g.col g.l ∧ Ext w w')
(∃ (g1 : Nat),
#[Value.int IntKind.i32 n] = #[Value.int IntKind.i32 (↑g1 : Int)] ∧
(DB w' ∧ (16 : Nat) ≤ g1 ∧ g1 ≤ (1114111 : Nat)) ∧
∀ (x : ByteArray) (w'1 : World),
x = nameS g1 ∧ Ext w' w'1 →
∃ (x1 : ByteArray × Nat),
Value.tuple #[Value.string x, Value.int IntKind.i64 (↑x.size : Int)] =
Value.tuple #[Value.string x1.fst, Value.int IntKind.i64 (↑x1.snd : Int)] ∧
x1 = oneC g.k g.col g.l ∧ Ext w w'1))
(bcase (n == (8232 : Int))
(bcase (n == (8232 : Int))
(∃ (b2 : Bool),
w'.cell? { block := b, off := (4 : Nat) } = some (Value.bool b2) ∧
bcase (!b2)
(∃ (x : ByteArray × Nat),
Value.tuple #[Value.string (ByteArray.mk #[]), Value.int IntKind.i64 (0 : Int)] =
Value.tuple #[Value.string x.fst, Value.int IntKind.i64 (↑x.snd : Int)] ∧
x = oneC g.k g.col g.l ∧ Ext w w')
(∃ (g1 : Nat),
#[Value.int IntKind.i32 n] = #[Value.int IntKind.i32 (↑g1 : Int)] ∧
(DB w' ∧ (16 : Nat) ≤ g1 ∧ g1 ≤ (1114111 : Nat)) ∧
∀ (x : ByteArray) (w'1 : World),
x = nameS g1 ∧ Ext w' w'1 →
∃ (x1 : ByteArray × Nat),
Value.tuple #[Value.string x, Value.int IntKind.i64 (↑x.size : Int)] =
Value.tuple #[Value.string x1.fst, Value.int IntKind.i64 (↑x1.snd : Int)] ∧
x1 = oneC g.k g.col g.l ∧ Ext w w'1))
(∃ (g1 : Int),
#[Value.int IntKind.i32 n] = #[Value.int IntKind.i32 g1] ∧
True ∧
∀ (x : Int) (w'1 : World),
x = kindR g1 ∧ Ext w' w'1 →
bcase (x == (2 : Int) || (n == (8204 : Int) || n == (8205 : Int)))
(∃ (hn : Nat),
(if (31 : Int) < (↑(cnt g.k) : Int) then (31 : Int) else (↑(cnt g.k) : Int)) = (↑hn : Int) ∧
hn ≤ g.c ∧
∃ (zs : List Int),
RunesIn w'1 g.a hn zs ∧
(ByteArray.mk #[(226 : UInt8), (151 : UInt8), (140 : UInt8)]).size + (runesBytes zs).size ≤ (9223372036854775807 : Nat) ∧
∃ (x1 : ByteArray × Nat),
Value.tuple
#[Value.string ((ByteArray.mk #[(226 : UInt8), (151 : UInt8), (140 : UInt8)]) ++ runesBytes zs),
Value.int IntKind.i64 (1 : Int)] =
Value.tuple #[Value.string x1.fst, Value.int IntKind.i64 (↑x1.snd : Int)] ∧
x1 = oneC g.k g.col g.l ∧ Ext w w'1)
(∃ (b2 : Bool),
w'1.cell? { block := b, off := (1 : Nat) } = some (Value.bool b2) ∧
∃ (g2 : Int × Bool),
#[Value.int IntKind.i32 n, Value.bool b2] = #[Value.int IntKind.i32 g2.fst, Value.bool g2.snd] ∧
True ∧
∀ (x1 : Int) (w'2 : World),
x1 = wideR g2.fst g2.snd ∧ Ext w'1 w'2 →
(∃ (g3 : Int),
#[Value.int IntKind.i32 n] = #[Value.int IntKind.i32 g3] ∧
True ∧
∀ (x2 : Bool) (w'3 : World),
x2 = regB g3 ∧ Ext w'2 w'3 →
bcase x2
(∃ (g4 : Int),
#[Value.int IntKind.i32 (secR g.k)] = #[Value.int IntKind.i32 g4] ∧
True ∧
∀ (x3 : Bool) (w'4 : World),
x3 = regB g4 ∧ Ext w'3 w'4 →
bcase x3 (∃ (c1 : Unit), Value.bool x3 = Value.bool (twoB g.k g.l) ∧ Ext w'2 w'4)
(∃ (g5 : Int),
#[Value.int IntKind.i32 n] = #[Value.int IntKind.i32 g5] ∧
True ∧
∀ (x4 : Int) (w'5 : World),
x4 = kindR g5 ∧ Ext w'4 w'5 →
bcase (x4 == (7 : Int))
(bcase (x1 == (1 : Int))
(∃ (c1 : Unit), Value.bool (secR g.k == (65039 : Int)) = Value.bool (twoB g.k g.l) ∧ Ext w'2 w'5)
(∃ (c1 : Unit), Value.bool false = Value.bool (twoB g.k g.l) ∧ Ext w'2 w'5))
(∃ (c1 : Unit), Value.bool false = Value.bool (twoB g.k g.l) ∧ Ext w'2 w'5)))
(∃ (g4 : Int),
#[Value.int IntKind.i32 n] = #[Value.int IntKind.i32 g4] ∧
True ∧
∀ (x3 : Int) (w'4 : World),
x3 = kindR g4 ∧ Ext w'3 w'4 →
bcase (x3 == (7 : Int))
(bcase (x1 == (1 : Int))
(∃ (c1 : Unit), Value.bool (secR g.k == (65039 : Int)) = Value.bool (twoB g.k g.l) ∧ Ext w'2 w'4)
(∃ (c1 : Unit), Value.bool false = Value.bool (twoB g.k g.l) ∧ Ext w'2 w'4))
(∃ (c1 : Unit), Value.bool false = Value.bool (twoB g.k g.l) ∧ Ext w'2 w'4))) ∧
∀ (u1 : Nat → Value) (c1 : Unit) (w'3 : World),
Ext w'2 w'3 →
bcase (twoB g.k g.l)
(∃ (x2 : ByteArray × Nat),
Value.tuple #[Value.string g.k, Value.int IntKind.i64 (2 : Int)] =
Value.tuple #[Value.string x2.fst, Value.int IntKind.i64 (↑x2.snd : Int)] ∧
x2 = oneC g.k g.col g.l ∧ Ext w w'3)
(bcase (x1 == (0 : Int))
(∃ (x2 : ByteArray × Nat),
Value.tuple #[Value.string (ByteArray.mk #[]), Value.int IntKind.i64 (0 : Int)] =
Value.tuple #[Value.string x2.fst, Value.int IntKind.i64 (↑x2.snd : Int)] ∧
x2 = oneC g.k g.col g.l ∧ Ext w w'3)
(∃ (x2 : ByteArray × Nat),
Value.tuple #[Value.string g.k, Value.int IntKind.i64 x1] =
Value.tuple #[Value.string x2.fst, Value.int IntKind.i64 (↑x2.snd : Int)] ∧
x2 = oneC g.k g.col g.l ∧ Ext w w'3)))))
(bcase (n == (8233 : Int))
(bcase (n == (8233 : Int))
(∃ (b2 : Bool),
w'.cell? { block := b, off := (4 : Nat) } = some (Value.bool b2) ∧
bcase (!b2)
(∃ (x : ByteArray × Nat),
Value.tuple #[Value.string (ByteArray.mk #[]), Value.int IntKind.i64 (0 : Int)] =
Value.tuple #[Value.string x.fst, Value.int IntKind.i64 (↑x.snd : Int)] ∧
x = oneC g.k g.col g.l ∧ Ext w w')
(∃ (g1 : Nat),
#[Value.int IntKind.i32 n] = #[Value.int IntKind.i32 (↑g1 : Int)] ∧
(DB w' ∧ (16 : Nat) ≤ g1 ∧ g1 ≤ (1114111 : Nat)) ∧
∀ (x : ByteArray) (w'1 : World),
x = nameS g1 ∧ Ext w' w'1 →
∃ (x1 : ByteArray × Nat),
Value.tuple #[Value.string x, Value.int IntKind.i64 (↑x.size : Int)] =
Value.tuple #[Value.string x1.fst, Value.int IntKind.i64 (↑x1.snd : Int)] ∧
x1 = oneC g.k g.col g.l ∧ Ext w w'1))
(∃ (g1 : Int),
#[Value.int IntKind.i32 n] = #[Value.int IntKind.i32 g1] ∧
True ∧
∀ (x : Int) (w'1 : World),
x = kindR g1 ∧ Ext w' w'1 →
bcase (x == (2 : Int) || (n == (8204 : Int) || n == (8205 : Int)))
(∃ (hn : Nat),
(if (31 : Int) < (↑(cnt g.k) : Int) then (31 : Int) else (↑(cnt g.k) : Int)) = (↑hn : Int) ∧
hn ≤ g.c ∧
∃ (zs : List Int),
RunesIn w'1 g.a hn zs ∧
(ByteArray.mk #[(226 : UInt8), (151 : UInt8), (140 : UInt8)]).size + (runesBytes zs).size ≤ (9223372036854775807 : Nat) ∧
∃ (x1 : ByteArray × Nat),
Value.tuple
#[Value.string ((ByteArray.mk #[(226 : UInt8), (151 : UInt8), (140 : UInt8)]) ++ runesBytes zs),
Value.int IntKind.i64 (1 : Int)] =
Value.tuple #[Value.string x1.fst, Value.int IntKind.i64 (↑x1.snd : Int)] ∧
x1 = oneC g.k g.col g.l ∧ Ext w w'1)
(∃ (b2 : Bool),
w'1.cell? { block := b, off := (1 : Nat) } = some (Value.bool b2) ∧
∃ (g2 : Int × Bool),
#[Value.int IntKind.i32 n, Value.bool b2] = #[Value.int IntKind.i32 g2.fst, Value.bool g2.snd] ∧
True ∧
∀ (x1 : Int) (w'2 : World),
x1 = wideR g2.fst g2.snd ∧ Ext w'1 w'2 →
(∃ (g3 : Int),
#[Value.int IntKind.i32 n] = #[Value.int IntKind.i32 g3] ∧
True ∧
∀ (x2 : Bool) (w'3 : World),
x2 = regB g3 ∧ Ext w'2 w'3 →
bcase x2
(∃ (g4 : Int),
#[Value.int IntKind.i32 (secR g.k)] = #[Value.int IntKind.i32 g4] ∧
True ∧
∀ (x3 : Bool) (w'4 : World),
x3 = regB g4 ∧ Ext w'3 w'4 →
bcase x3 (∃ (c1 : Unit), Value.bool x3 = Value.bool (twoB g.k g.l) ∧ Ext w'2 w'4)
(∃ (g5 : Int),
#[Value.int IntKind.i32 n] = #[Value.int IntKind.i32 g5] ∧
True ∧
∀ (x4 : Int) (w'5 : World),
x4 = kindR g5 ∧ Ext w'4 w'5 →
bcase (x4 == (7 : Int))
(bcase (x1 == (1 : Int))
(∃ (c1 : Unit), Value.bool (secR g.k == (65039 : Int)) = Value.bool (twoB g.k g.l) ∧ Ext w'2 w'5)
(∃ (c1 : Unit), Value.bool false = Value.bool (twoB g.k g.l) ∧ Ext w'2 w'5))
(∃ (c1 : Unit), Value.bool false = Value.bool (twoB g.k g.l) ∧ Ext w'2 w'5)))
(∃ (g4 : Int),
#[Value.int IntKind.i32 n] = #[Value.int IntKind.i32 g4] ∧
True ∧
∀ (x3 : Int) (w'4 : World),
x3 = kindR g4 ∧ Ext w'3 w'4 →
bcase (x3 == (7 : Int))
(bcase (x1 == (1 : Int))
(∃ (c1 : Unit), Value.bool (secR g.k == (65039 : Int)) = Value.bool (twoB g.k g.l) ∧ Ext w'2 w'4)
(∃ (c1 : Unit), Value.bool false = Value.bool (twoB g.k g.l) ∧ Ext w'2 w'4))
(∃ (c1 : Unit), Value.bool false = Value.bool (twoB g.k g.l) ∧ Ext w'2 w'4))) ∧
∀ (u1 : Nat → Value) (c1 : Unit) (w'3 : World),
Ext w'2 w'3 →
bcase (twoB g.k g.l)
(∃ (x2 : ByteArray × Nat),
Value.tuple #[Value.string g.k, Value.int IntKind.i64 (2 : Int)] =
Value.tuple #[Value.string x2.fst, Value.int IntKind.i64 (↑x2.snd : Int)] ∧
x2 = oneC g.k g.col g.l ∧ Ext w w'3)
(bcase (x1 == (0 : Int))
(∃ (x2 : ByteArray × Nat),
Value.tuple #[Value.string (ByteArray.mk #[]), Value.int IntKind.i64 (0 : Int)] =
Value.tuple #[Value.string x2.fst, Value.int IntKind.i64 (↑x2.snd : Int)] ∧
x2 = oneC g.k g.col g.l ∧ Ext w w'3)
(∃ (x2 : ByteArray × Nat),
Value.tuple #[Value.string g.k, Value.int IntKind.i64 x1] =
Value.tuple #[Value.string x2.fst, Value.int IntKind.i64 (↑x2.snd : Int)] ∧
x2 = oneC g.k g.col g.l ∧ Ext w w'3)))))
(∃ (g1 : Int),
#[Value.int IntKind.i32 n] = #[Value.int IntKind.i32 g1] ∧
True ∧
∀ (x : Int) (w'1 : World),
x = kindR g1 ∧ Ext w' w'1 →
bcase (x == (1 : Int))
(bcase (n != (8204 : Int))
(bcase (n != (8205 : Int))
(∃ (b2 : Bool),
w'1.cell? { block := b, off := (4 : Nat) } = some (Value.bool b2) ∧
bcase (!b2)
(∃ (x1 : ByteArray × Nat),
Value.tuple #[Value.string (ByteArray.mk #[]), Value.int IntKind.i64 (0 : Int)] =
Value.tuple #[Value.string x1.fst, Value.int IntKind.i64 (↑x1.snd : Int)] ∧
x1 = oneC g.k g.col g.l ∧ Ext w w'1)
(∃ (g2 : Nat),
#[Value.int IntKind.i32 n] = #[Value.int IntKind.i32 (↑g2 : Int)] ∧
(DB w'1 ∧ (16 : Nat) ≤ g2 ∧ g2 ≤ (1114111 : Nat)) ∧
∀ (x1 : ByteArray) (w'2 : World),
x1 = nameS g2 ∧ Ext w'1 w'2 →
∃ (x2 : ByteArray × Nat),
Value.tuple #[Value.string x1, Value.int IntKind.i64 (↑x1.size : Int)] =
Value.tuple #[Value.string x2.fst, Value.int IntKind.i64 (↑x2.snd : Int)] ∧
x2 = oneC g.k g.col g.l ∧ Ext w w'2))
(∃ (g2 : Int),
#[Value.int IntKind.i32 n] = #[Value.int IntKind.i32 g2] ∧
True ∧
∀ (x1 : Int) (w'2 : World),
x1 = kindR g2 ∧ Ext w'1 w'2 →
bcase (x1 == (2 : Int) || (n == (8204 : Int) || n == (8205 : Int)))
(∃ (hn : Nat),
(if (31 : Int) < (↑(cnt g.k) : Int) then (31 : Int) else (↑(cnt g.k) : Int)) = (↑hn : Int) ∧
hn ≤ g.c ∧
∃ (zs : List Int),
RunesIn w'2 g.a hn zs ∧
(ByteArray.mk #[(226 : UInt8), (151 : UInt8), (140 : UInt8)]).size + (runesBytes zs).size ≤ (9223372036854775807 : Nat) ∧
∃ (x2 : ByteArray × Nat),
Value.tuple
#[Value.string ((ByteArray.mk #[(226 : UInt8), (151 : UInt8), (140 : UInt8)]) ++ runesBytes zs),
Value.int IntKind.i64 (1 : Int)] =
Value.tuple #[Value.string x2.fst, Value.int IntKind.i64 (↑x2.snd : Int)] ∧
x2 = oneC g.k g.col g.l ∧ Ext w w'2)
(∃ (b2 : Bool),
w'2.cell? { block := b, off := (1 : Nat) } = some (Value.bool b2) ∧
∃ (g3 : Int × Bool),
#[Value.int IntKind.i32 n, Value.bool b2] = #[Value.int IntKind.i32 g3.fst, Value.bool g3.snd] ∧
True ∧
∀ (x2 : Int) (w'3 : World),
x2 = wideR g3.fst g3.snd ∧ Ext w'2 w'3 →
(∃ (g4 : Int),
#[Value.int IntKind.i32 n] = #[Value.int IntKind.i32 g4] ∧
True ∧
∀ (x3 : Bool) (w'4 : World),
x3 = regB g4 ∧ Ext w'3 w'4 →
bcase x3
(∃ (g5 : Int),
#[Value.int IntKind.i32 (secR g.k)] = #[Value.int IntKind.i32 g5] ∧
True ∧
∀ (x4 : Bool) (w'5 : World),
x4 = regB g5 ∧ Ext w'4 w'5 →
bcase x4 (∃ (c1 : Unit), Value.bool x4 = Value.bool (twoB g.k g.l) ∧ Ext w'3 w'5)
(∃ (g6 : Int),
#[Value.int IntKind.i32 n] = #[Value.int IntKind.i32 g6] ∧
True ∧
∀ (x5 : Int) (w'6 : World),
x5 = kindR g6 ∧ Ext w'5 w'6 →
bcase (x5 == (7 : Int))
(bcase (x2 == (1 : Int))
(∃ (c1 : Unit), Value.bool (secR g.k == (65039 : Int)) = Value.bool (twoB g.k g.l) ∧ Ext w'3 w'6)
(∃ (c1 : Unit), Value.bool false = Value.bool (twoB g.k g.l) ∧ Ext w'3 w'6))
(∃ (c1 : Unit), Value.bool false = Value.bool (twoB g.k g.l) ∧ Ext w'3 w'6)))
(∃ (g5 : Int),
#[Value.int IntKind.i32 n] = #[Value.int IntKind.i32 g5] ∧
True ∧
∀ (x4 : Int) (w'5 : World),
x4 = kindR g5 ∧ Ext w'4 w'5 →
bcase (x4 == (7 : Int))
(bcase (x2 == (1 : Int))
(∃ (c1 : Unit), Value.bool (secR g.k == (65039 : Int)) = Value.bool (twoB g.k g.l) ∧ Ext w'3 w'5)
(∃ (c1 : Unit), Value.bool false = Value.bool (twoB g.k g.l) ∧ Ext w'3 w'5))
(∃ (c1 : Unit), Value.bool false = Value.bool (twoB g.k g.l) ∧ Ext w'3 w'5))) ∧
∀ (u1 : Nat → Value) (c1 : Unit) (w'4 : World),
Ext w'3 w'4 →
bcase (twoB g.k g.l)
(∃ (x3 : ByteArray × Nat),
Value.tuple #[Value.string g.k, Value.int IntKind.i64 (2 : Int)] =
Value.tuple #[Value.string x3.fst, Value.int IntKind.i64 (↑x3.snd : Int)] ∧
x3 = oneC g.k g.col g.l ∧ Ext w w'4)
(bcase (x2 == (0 : Int))
(∃ (x3 : ByteArray × Nat),
Value.tuple #[Value.string (ByteArray.mk #[]), Value.int IntKind.i64 (0 : Int)] =
Value.tuple #[Value.string x3.fst, Value.int IntKind.i64 (↑x3.snd : Int)] ∧
x3 = oneC g.k g.col g.l ∧ Ext w w'4)
(∃ (x3 : ByteArray × Nat),
Value.tuple #[Value.string g.k, Value.int IntKind.i64 x2] =
Value.tuple #[Value.string x3.fst, Value.int IntKind.i64 (↑x3.snd : Int)] ∧
x3 = oneC g.k g.col g.l ∧ Ext w w'4)))))
(∃ (g2 : Int),
#[Value.int IntKind.i32 n] = #[Value.int IntKind.i32 g2] ∧
True ∧
∀ (x1 : Int) (w'2 : World),
x1 = kindR g2 ∧ Ext w'1 w'2 →
bcase (x1 == (2 : Int) || (n == (8204 : Int) || n == (8205 : Int)))
(∃ (hn : Nat),
(if (31 : Int) < (↑(cnt g.k) : Int) then (31 : Int) else (↑(cnt g.k) : Int)) = (↑hn : Int) ∧
hn ≤ g.c ∧
∃ (zs : List Int),
RunesIn w'2 g.a hn zs ∧
(ByteArray.mk #[(226 : UInt8), (151 : UInt8), (140 : UInt8)]).size + (runesBytes zs).size ≤ (9223372036854775807 : Nat) ∧
∃ (x2 : ByteArray × Nat),
Value.tuple
#[Value.string ((ByteArray.mk #[(226 : UInt8), (151 : UInt8), (140 : UInt8)]) ++ runesBytes zs),
Value.int IntKind.i64 (1 : Int)] =
Value.tuple #[Value.string x2.fst, Value.int IntKind.i64 (↑x2.snd : Int)] ∧
x2 = oneC g.k g.col g.l ∧ Ext w w'2)
(∃ (b2 : Bool),
w'2.cell? { block := b, off := (1 : Nat) } = some (Value.bool b2) ∧
∃ (g3 : Int × Bool),
#[Value.int IntKind.i32 n, Value.bool b2] = #[Value.int IntKind.i32 g3.fst, Value.bool g3.snd] ∧
True ∧
∀ (x2 : Int) (w'3 : World),
x2 = wideR g3.fst g3.snd ∧ Ext w'2 w'3 →
(∃ (g4 : Int),
#[Value.int IntKind.i32 n] = #[Value.int IntKind.i32 g4] ∧
True ∧
∀ (x3 : Bool) (w'4 : World),
x3 = regB g4 ∧ Ext w'3 w'4 →
bcase x3
(∃ (g5 : Int),
#[Value.int IntKind.i32 (secR g.k)] = #[Value.int IntKind.i32 g5] ∧
True ∧
∀ (x4 : Bool) (w'5 : World),
x4 = regB g5 ∧ Ext w'4 w'5 →
bcase x4 (∃ (c1 : Unit), Value.bool x4 = Value.bool (twoB g.k g.l) ∧ Ext w'3 w'5)
(∃ (g6 : Int),
#[Value.int IntKind.i32 n] = #[Value.int IntKind.i32 g6] ∧
True ∧
∀ (x5 : Int) (w'6 : World),
x5 = kindR g6 ∧ Ext w'5 w'6 →
bcase (x5 == (7 : Int))
(bcase (x2 == (1 : Int))
(∃ (c1 : Unit), Value.bool (secR g.k == (65039 : Int)) = Value.bool (twoB g.k g.l) ∧ Ext w'3 w'6)
(∃ (c1 : Unit), Value.bool false = Value.bool (twoB g.k g.l) ∧ Ext w'3 w'6))
(∃ (c1 : Unit), Value.bool false = Value.bool (twoB g.k g.l) ∧ Ext w'3 w'6)))
(∃ (g5 : Int),
#[Value.int IntKind.i32 n] = #[Value.int IntKind.i32 g5] ∧
True ∧
∀ (x4 : Int) (w'5 : World),
x4 = kindR g5 ∧ Ext w'4 w'5 →
bcase (x4 == (7 : Int))
(bcase (x2 == (1 : Int))
(∃ (c1 : Unit), Value.bool (secR g.k == (65039 : Int)) = Value.bool (twoB g.k g.l) ∧ Ext w'3 w'5)
(∃ (c1 : Unit), Value.bool false = Value.bool (twoB g.k g.l) ∧ Ext w'3 w'5))
(∃ (c1 : Unit), Value.bool false = Value.bool (twoB g.k g.l) ∧ Ext w'3 w'5))) ∧
∀ (u1 : Nat → Value) (c1 : Unit) (w'4 : World),
Ext w'3 w'4 →
bcase (twoB g.k g.l)
(∃ (x3 : ByteArray × Nat),
Value.tuple #[Value.string g.k, Value.int IntKind.i64 (2 : Int)] =
Value.tuple #[Value.string x3.fst, Value.int IntKind.i64 (↑x3.snd : Int)] ∧
x3 = oneC g.k g.col g.l ∧ Ext w w'4)
(bcase (x2 == (0 : Int))
(∃ (x3 : ByteArray × Nat),
Value.tuple #[Value.string (ByteArray.mk #[]), Value.int IntKind.i64 (0 : Int)] =
Value.tuple #[Value.string x3.fst, Value.int IntKind.i64 (↑x3.snd : Int)] ∧
x3 = oneC g.k g.col g.l ∧ Ext w w'4)
(∃ (x3 : ByteArray × Nat),
Value.tuple #[Value.string g.k, Value.int IntKind.i64 x2] =
Value.tuple #[Value.string x3.fst, Value.int IntKind.i64 (↑x3.snd : Int)] ∧
x3 = oneC g.k g.col g.l ∧ Ext w w'4)))))
(∃ (g2 : Int),
#[Value.int IntKind.i32 n] = #[Value.int IntKind.i32 g2] ∧
True ∧
∀ (x1 : Int) (w'2 : World),
x1 = kindR g2 ∧ Ext w'1 w'2 →
bcase (x1 == (2 : Int) || (n == (8204 : Int) || n == (8205 : Int)))
(∃ (hn : Nat),
(if (31 : Int) < (↑(cnt g.k) : Int) then (31 : Int) else (↑(cnt g.k) : Int)) = (↑hn : Int) ∧
hn ≤ g.c ∧
∃ (zs : List Int),
RunesIn w'2 g.a hn zs ∧
(ByteArray.mk #[(226 : UInt8), (151 : UInt8), (140 : UInt8)]).size + (runesBytes zs).size ≤ (9223372036854775807 : Nat) ∧
∃ (x2 : ByteArray × Nat),
Value.tuple
#[Value.string ((ByteArray.mk #[(226 : UInt8), (151 : UInt8), (140 : UInt8)]) ++ runesBytes zs),
Value.int IntKind.i64 (1 : Int)] =
Value.tuple #[Value.string x2.fst, Value.int IntKind.i64 (↑x2.snd : Int)] ∧
x2 = oneC g.k g.col g.l ∧ Ext w w'2)
(∃ (b2 : Bool),
w'2.cell? { block := b, off := (1 : Nat) } = some (Value.bool b2) ∧
∃ (g3 : Int × Bool),
#[Value.int IntKind.i32 n, Value.bool b2] = #[Value.int IntKind.i32 g3.fst, Value.bool g3.snd] ∧
True ∧
∀ (x2 : Int) (w'3 : World),
x2 = wideR g3.fst g3.snd ∧ Ext w'2 w'3 →
(∃ (g4 : Int),
#[Value.int IntKind.i32 n] = #[Value.int IntKind.i32 g4] ∧
True ∧
∀ (x3 : Bool) (w'4 : World),
x3 = regB g4 ∧ Ext w'3 w'4 →
bcase x3
(∃ (g5 : Int),
#[Value.int IntKind.i32 (secR g.k)] = #[Value.int IntKind.i32 g5] ∧
True ∧
∀ (x4 : Bool) (w'5 : World),
x4 = regB g5 ∧ Ext w'4 w'5 →
bcase x4 (∃ (c1 : Unit), Value.bool x4 = Value.bool (twoB g.k g.l) ∧ Ext w'3 w'5)
(∃ (g6 : Int),
#[Value.int IntKind.i32 n] = #[Value.int IntKind.i32 g6] ∧
True ∧
∀ (x5 : Int) (w'6 : World),
x5 = kindR g6 ∧ Ext w'5 w'6 →
bcase (x5 == (7 : Int))
(bcase (x2 == (1 : Int))
(∃ (c1 : Unit), Value.bool (secR g.k == (65039 : Int)) = Value.bool (twoB g.k g.l) ∧ Ext w'3 w'6)
(∃ (c1 : Unit), Value.bool false = Value.bool (twoB g.k g.l) ∧ Ext w'3 w'6))
(∃ (c1 : Unit), Value.bool false = Value.bool (twoB g.k g.l) ∧ Ext w'3 w'6)))
(∃ (g5 : Int),
#[Value.int IntKind.i32 n] = #[Value.int IntKind.i32 g5] ∧
True ∧
∀ (x4 : Int) (w'5 : World),
x4 = kindR g5 ∧ Ext w'4 w'5 →
bcase (x4 == (7 : Int))
(bcase (x2 == (1 : Int))
(∃ (c1 : Unit), Value.bool (secR g.k == (65039 : Int)) = Value.bool (twoB g.k g.l) ∧ Ext w'3 w'5)
(∃ (c1 : Unit), Value.bool false = Value.bool (twoB g.k g.l) ∧ Ext w'3 w'5))
(∃ (c1 : Unit), Value.bool false = Value.bool (twoB g.k g.l) ∧ Ext w'3 w'5))) ∧
∀ (u1 : Nat → Value) (c1 : Unit) (w'4 : World),
Ext w'3 w'4 →
bcase (twoB g.k g.l)
(∃ (x3 : ByteArray × Nat),
Value.tuple #[Value.string g.k, Value.int IntKind.i64 (2 : Int)] =
Value.tuple #[Value.string x3.fst, Value.int IntKind.i64 (↑x3.snd : Int)] ∧
x3 = oneC g.k g.col g.l ∧ Ext w w'4)
(bcase (x2 == (0 : Int))
(∃ (x3 : ByteArray × Nat),
Value.tuple #[Value.string (ByteArray.mk #[]), Value.int IntKind.i64 (0 : Int)] =
Value.tuple #[Value.string x3.fst, Value.int IntKind.i64 (↑x3.snd : Int)] ∧
x3 = oneC g.k g.col g.l ∧ Ext w w'4)
(∃ (x3 : ByteArray × Nat),
Value.tuple #[Value.string g.k, Value.int IntKind.i64 x2] =
Value.tuple #[Value.string x3.fst, Value.int IntKind.i64 (↑x3.snd : Int)] ∧
x3 = oneC g.k g.col g.l ∧ Ext w w'4))))))))))) :
    ((sOneL true)).Ok Tryd.prog 77 :=
  ok_of_vc (sOneL true) annOneT spOneP (fun _ _ => rfl) (fun _ _ => rfl) hsp Tryd.func77 rfl (n := 4) (fun _ => rfl) (by kernel_rfl) (vcast (by kernel_rfl) h)

set_option maxRecDepth 1000000 in
theorem oneF_vc (hsp : SpecsOk Tryd.prog spOneP) (h : ∀ (g : GK6) (w : World),
lateB (sg g.k (0 : Nat)) = false ∧
DB w ∧
g.k.size ≤ (67108864 : Nat) ∧
ncl g.k = (1 : Nat) ∧
isBad g.k (0 : Nat) = false ∧ cnt g.k ≤ g.c ∧ CellsAt w g.a (List.map (Value.int IntKind.i32) (runes g.k)) →
∀ (b : Nat) (w1 : World),
New w
(Obj.cells
#[Value.int IntKind.i64 g.l.tab, Value.bool g.l.wide, Value.int IntKind.i8 g.l.want, Value.bool g.l.join,
Value.bool g.l.raw]
(57 : Nat))
b w1 →
∃ (k : Nat),
(0 : Int) = (↑k : Int) ∧
k < cnt g.k ∧
ptrE g.a fun (b1 o : Nat) =>
∃ (n : Int),
w1.cell? { block := b1, off := o + k } = some (Value.int IntKind.i32 n) ∧
bcase (decide ((↑(cnt g.k) : Int) > (1 : Int)))
(∃ (k1 : Nat),
(1 : Int) = (↑k1 : Int) ∧
k1 < cnt g.k ∧
ptrE g.a fun (b2 o1 : Nat) =>
∃ (n1 : Int),
w1.cell? { block := b2, off := o1 + k1 } = some (Value.int IntKind.i32 n1) ∧
∃ (c : Unit), Value.int IntKind.i32 n1 = Value.int IntKind.i32 (secR g.k) ∧ w1 = w1)
(∃ (c : Unit), Value.int IntKind.i32 (0 : Int) = Value.int IntKind.i32 (secR g.k) ∧ w1 = w1) ∧
∀ (u : Nat → Value) (c : Unit) (w' : World),
w' = w1 →
bcase (n == (9 : Int))
(∃ (n1 : Int),
w'.cell? { block := b, off := (0 : Nat) } = some (Value.int IntKind.i64 n1) ∧
∃ (b2 : Bool),
w'.cell? { block := b, off := (1 : Nat) } = some (Value.bool b2) ∧
∃ (n2 : Int),
w'.cell? { block := b, off := (2 : Nat) } = some (Value.int IntKind.i8 n2) ∧
∃ (b3 : Bool),
w'.cell? { block := b, off := (3 : Nat) } = some (Value.bool b3) ∧
∃ (b4 : Bool),
w'.cell? { block := b, off := (4 : Nat) } = some (Value.bool b4) ∧
∃ (g1 : Int × Lk),
#[Value.int IntKind.i64 g.col,
Value.agg #[Value.int IntKind.i64 n1, Value.bool b2, Value.int IntKind.i8 n2, Value.bool b3, Value.bool b4]] =
#[Value.int IntKind.i64 g1.fst,
Value.agg
#[Value.int IntKind.i64 g1.snd.tab, Value.bool g1.snd.wide, Value.int IntKind.i8 g1.snd.want, Value.bool g1.snd.join,
Value.bool g1.snd.raw]] ∧
True ∧
∀ (x : Nat) (w'1 : World),
x = stopN g1.fst g1.snd.tab ∧ Ext w' w'1 →
∃ (g2 : Nat),
#[Value.string (ByteArray.mk #[(32 : UInt8)]), Value.int IntKind.i64 (↑x : Int)] =
#[Value.string (ByteArray.mk #[(32 : UInt8)]), Value.int IntKind.i64 (↑g2 : Int)] ∧
g2 ≤ (16 : Nat) ∧
∀ (x1 : ByteArray) (w'2 : World),
x1 = blankS g2 ∧ Ext w'1 w'2 →
∃ (x2 : ByteArray × Nat),
Value.tuple #[Value.string x1, Value.int IntKind.i64 (↑x : Int)] =
Value.tuple #[Value.string x2.fst, Value.int IntKind.i64 (↑x2.snd : Int)] ∧
x2 = oneC g.k g.col g.l ∧ Ext w w'2)
(bcase (n == (10 : Int) || secR g.k == (10 : Int))
(∃ (x : ByteArray × Nat),
Value.tuple #[Value.string (ByteArray.mk #[]), Value.int IntKind.i64 (0 : Int)] =
Value.tuple #[Value.string x.fst, Value.int IntKind.i64 (↑x.snd : Int)] ∧
x = oneC g.k g.col g.l ∧ Ext w w')
(bcase (decide (n < (32 : Int)) || n == (127 : Int))
(∀ (b2 : Nat) (w11 : World),
New w'
(Obj.cells
#[Value.int IntKind.i32
(IntKind.i32.wrap (↑(BitVec.ofInt IntKind.i32.bits n ^^^ BitVec.ofInt IntKind.i32.bits (64 : Int)).toNat : Int))]
(21 : Nat))
b2 w11 →
∃ (zs : List Int),
RunesIn w11 (some { block := b2, off := (0 : Nat) }) (1 : Nat) zs ∧
(ByteArray.mk #[(94 : UInt8)]).size + (runesBytes zs).size ≤ (9223372036854775807 : Nat) ∧
∃ (x : ByteArray × Nat),
Value.tuple #[Value.string ((ByteArray.mk #[(94 : UInt8)]) ++ runesBytes zs), Value.int IntKind.i64 (2 : Int)] =
Value.tuple #[Value.string x.fst, Value.int IntKind.i64 (↑x.snd : Int)] ∧
x = oneC g.k g.col g.l ∧ Ext w w11)
(bcase (decide ((128 : Int) ≤ n) && decide (n ≤ (159 : Int)))
(∃ (b2 : Bool),
w'.cell? { block := b, off := (4 : Nat) } = some (Value.bool b2) ∧
bcase (!b2)
(∃ (x : ByteArray × Nat),
Value.tuple #[Value.string (ByteArray.mk #[]), Value.int IntKind.i64 (0 : Int)] =
Value.tuple #[Value.string x.fst, Value.int IntKind.i64 (↑x.snd : Int)] ∧
x = oneC g.k g.col g.l ∧ Ext w w')
(∃ (g1 : Nat),
#[Value.int IntKind.i32 n] = #[Value.int IntKind.i32 (↑g1 : Int)] ∧
(DB w' ∧ (16 : Nat) ≤ g1 ∧ g1 ≤ (1114111 : Nat)) ∧
∀ (x : ByteArray) (w'1 : World),
x = nameS g1 ∧ Ext w' w'1 →
∃ (x1 : ByteArray × Nat),
Value.tuple #[Value.string x, Value.int IntKind.i64 (↑x.size : Int)] =
Value.tuple #[Value.string x1.fst, Value.int IntKind.i64 (↑x1.snd : Int)] ∧
x1 = oneC g.k g.col g.l ∧ Ext w w'1))
((bcase (n == (8232 : Int))
(∃ (c1 : Unit), Value.bool (n == (8232 : Int)) = Value.bool (lateB (sg g.k (0 : Nat))) ∧ Ext w' w')
(bcase (n == (8233 : Int))
(∃ (c1 : Unit), Value.bool (n == (8233 : Int)) = Value.bool (lateB (sg g.k (0 : Nat))) ∧ Ext w' w')
(∃ (g1 : Int),
#[Value.int IntKind.i32 n] = #[Value.int IntKind.i32 g1] ∧
True ∧
∀ (x : Int) (w'1 : World),
x = kindR g1 ∧ Ext w' w'1 →
bcase (x == (1 : Int))
(bcase (n != (8204 : Int))
(∃ (c1 : Unit), Value.bool (n != (8205 : Int)) = Value.bool (lateB (sg g.k (0 : Nat))) ∧ Ext w' w'1)
(∃ (c1 : Unit), Value.bool false = Value.bool (lateB (sg g.k (0 : Nat))) ∧ Ext w' w'1))
(∃ (c1 : Unit), Value.bool false = Value.bool (lateB (sg g.k (0 : Nat))) ∧ Ext w' w'1))) ∧
∀ (u1 : Nat → Value) (c1 : Unit) (w'1 : World),
Ext w' w'1 →
bcase (lateB (sg g.k (0 : Nat)))
(∃ (b2 : Bool),
w'1.cell? { block := b, off := (4 : Nat) } = some (Value.bool b2) ∧
bcase (!b2)
(∃ (x : ByteArray × Nat),
Value.tuple #[Value.string (ByteArray.mk #[]), Value.int IntKind.i64 (0 : Int)] =
Value.tuple #[Value.string x.fst, Value.int IntKind.i64 (↑x.snd : Int)] ∧
x = oneC g.k g.col g.l ∧ Ext w w'1)
(∃ (g1 : Nat),
#[Value.int IntKind.i32 n] = #[Value.int IntKind.i32 (↑g1 : Int)] ∧
(DB w'1 ∧ (16 : Nat) ≤ g1 ∧ g1 ≤ (1114111 : Nat)) ∧
∀ (x : ByteArray) (w'2 : World),
x = nameS g1 ∧ Ext w'1 w'2 →
∃ (x1 : ByteArray × Nat),
Value.tuple #[Value.string x, Value.int IntKind.i64 (↑x.size : Int)] =
Value.tuple #[Value.string x1.fst, Value.int IntKind.i64 (↑x1.snd : Int)] ∧
x1 = oneC g.k g.col g.l ∧ Ext w w'2))
(∃ (c2 : Unit), Value.bool (lateB (sg g.k (0 : Nat))) = Value.bool (lateB (sg g.k (0 : Nat))) ∧ Ext w' w'1)) ∧
∀ (u1 : Nat → Value) (c1 : Unit) (w'1 : World),
Ext w' w'1 →
∃ (g1 : Int),
#[Value.int IntKind.i32 n] = #[Value.int IntKind.i32 g1] ∧
True ∧
∀ (x : Int) (w'2 : World),
x = kindR g1 ∧ Ext w'1 w'2 →
bcase (x == (2 : Int) || (n == (8204 : Int) || n == (8205 : Int)))
(∃ (hn : Nat),
(if (31 : Int) < (↑(cnt g.k) : Int) then (31 : Int) else (↑(cnt g.k) : Int)) = (↑hn : Int) ∧
hn ≤ g.c ∧
∃ (zs : List Int),
RunesIn w'2 g.a hn zs ∧
(ByteArray.mk #[(226 : UInt8), (151 : UInt8), (140 : UInt8)]).size + (runesBytes zs).size ≤ (9223372036854775807 : Nat) ∧
∃ (x1 : ByteArray × Nat),
Value.tuple
#[Value.string ((ByteArray.mk #[(226 : UInt8), (151 : UInt8), (140 : UInt8)]) ++ runesBytes zs),
Value.int IntKind.i64 (1 : Int)] =
Value.tuple #[Value.string x1.fst, Value.int IntKind.i64 (↑x1.snd : Int)] ∧
x1 = oneC g.k g.col g.l ∧ Ext w w'2)
(∃ (b2 : Bool),
w'2.cell? { block := b, off := (1 : Nat) } = some (Value.bool b2) ∧
∃ (g2 : Int × Bool),
#[Value.int IntKind.i32 n, Value.bool b2] = #[Value.int IntKind.i32 g2.fst, Value.bool g2.snd] ∧
True ∧
∀ (x1 : Int) (w'3 : World),
x1 = wideR g2.fst g2.snd ∧ Ext w'2 w'3 →
(∃ (g3 : Int),
#[Value.int IntKind.i32 n] = #[Value.int IntKind.i32 g3] ∧
True ∧
∀ (x2 : Bool) (w'4 : World),
x2 = regB g3 ∧ Ext w'3 w'4 →
bcase x2
(∃ (g4 : Int),
#[Value.int IntKind.i32 (secR g.k)] = #[Value.int IntKind.i32 g4] ∧
True ∧
∀ (x3 : Bool) (w'5 : World),
x3 = regB g4 ∧ Ext w'4 w'5 →
bcase x3 (∃ (c2 : Unit), Value.bool x3 = Value.bool (twoB g.k g.l) ∧ Ext w'3 w'5)
(∃ (g5 : Int),
#[Value.int IntKind.i32 n] = #[Value.int IntKind.i32 g5] ∧
True ∧
∀ (x4 : Int) (w'6 : World),
x4 = kindR g5 ∧ Ext w'5 w'6 →
bcase (x4 == (7 : Int))
(bcase (x1 == (1 : Int))
(∃ (c2 : Unit), Value.bool (secR g.k == (65039 : Int)) = Value.bool (twoB g.k g.l) ∧ Ext w'3 w'6)
(∃ (c2 : Unit), Value.bool false = Value.bool (twoB g.k g.l) ∧ Ext w'3 w'6))
(∃ (c2 : Unit), Value.bool false = Value.bool (twoB g.k g.l) ∧ Ext w'3 w'6)))
(∃ (g4 : Int),
#[Value.int IntKind.i32 n] = #[Value.int IntKind.i32 g4] ∧
True ∧
∀ (x3 : Int) (w'5 : World),
x3 = kindR g4 ∧ Ext w'4 w'5 →
bcase (x3 == (7 : Int))
(bcase (x1 == (1 : Int))
(∃ (c2 : Unit), Value.bool (secR g.k == (65039 : Int)) = Value.bool (twoB g.k g.l) ∧ Ext w'3 w'5)
(∃ (c2 : Unit), Value.bool false = Value.bool (twoB g.k g.l) ∧ Ext w'3 w'5))
(∃ (c2 : Unit), Value.bool false = Value.bool (twoB g.k g.l) ∧ Ext w'3 w'5))) ∧
∀ (u2 : Nat → Value) (c2 : Unit) (w'4 : World),
Ext w'3 w'4 →
bcase (twoB g.k g.l)
(∃ (x2 : ByteArray × Nat),
Value.tuple #[Value.string g.k, Value.int IntKind.i64 (2 : Int)] =
Value.tuple #[Value.string x2.fst, Value.int IntKind.i64 (↑x2.snd : Int)] ∧
x2 = oneC g.k g.col g.l ∧ Ext w w'4)
(bcase (x1 == (0 : Int))
(∃ (x2 : ByteArray × Nat),
Value.tuple #[Value.string (ByteArray.mk #[]), Value.int IntKind.i64 (0 : Int)] =
Value.tuple #[Value.string x2.fst, Value.int IntKind.i64 (↑x2.snd : Int)] ∧
x2 = oneC g.k g.col g.l ∧ Ext w w'4)
(∃ (x2 : ByteArray × Nat),
Value.tuple #[Value.string g.k, Value.int IntKind.i64 x1] =
Value.tuple #[Value.string x2.fst, Value.int IntKind.i64 (↑x2.snd : Int)] ∧
x2 = oneC g.k g.col g.l ∧ Ext w w'4)))))))) :
    ((sOneL false)).Ok Tryd.prog 77 :=
  ok_of_vc (sOneL false) annOneF spOneP (fun _ _ => rfl) (fun _ _ => rfl) hsp Tryd.func77 rfl (n := 4) (fun _ => rfl) (by kernel_rfl) (vcast (by kernel_rfl) h)

set_option maxRecDepth 1000000 in
theorem textP_vc (hsp : SpecsOk Tryd.prog spTextP) (h : ∀ (g : GT6) (w : World),
U8 w ∧ DB w ∧ g.s.size ≤ (67108864 : Nat) →
∀ (b : Nat) (w1 : World),
New w
(Obj.cells
#[Value.int IntKind.i64 g.l.tab, Value.bool g.l.wide, Value.int IntKind.i8 g.l.want, Value.bool g.l.join,
Value.bool g.l.raw]
(57 : Nat))
b w1 →
∃ (g1 : ByteArray),
#[Value.string g.s] = #[Value.string g1] ∧
(U8 w1 ∧ g1.size ≤ (67108864 : Nat)) ∧
∀ (x : Nat) (w' : World),
x = nextL g1 ∧ Ext w1 w' →
∃ (k : Nat),
(↑x : Int) = (↑k : Int) ∧
(0 : Nat) ≤ k ∧
k ≤ g.s.size ∧
bcase ((g.s.extract (0 : Nat) k).toList == (ByteArray.mk #[]).toList)
(∃ (x1 : ByteArray × Nat),
Value.tuple #[Value.string (ByteArray.mk #[]), Value.int IntKind.i64 (0 : Int)] =
Value.tuple #[Value.string x1.fst, Value.int IntKind.i64 (↑x1.snd : Int)] ∧
x1 = textC g.s g.col g.l ∧ Ext w w')
(∃ (g2 : ByteArray),
#[Value.string (g.s.extract (0 : Nat) k)] = #[Value.string g2] ∧
(U8 w' ∧ g2.size ≤ (67108864 : Nat)) ∧
∀ (x1 : Int × Nat) (w'1 : World),
x1.fst = nxR g2 ∧ x1.snd = nxN g2 ∧ Ext w' w'1 →
bcase (x1.fst == (65533 : Int) && (↑x1.snd : Int) == (1 : Int))
(∀ (w11 : World),
Drew w'1 w11 →
∃ (k1 : Nat),
(0 : Int) = (↑k1 : Int) ∧
k1 < (g.s.extract (0 : Nat) k).size ∧
∃ (k2 : Nat),
(↑((#[].extract (0 : Nat) (0 : Nat) ++ g.s.data.extract (0 : Nat) ((0 : Nat) + (k - (0 : Nat))) ++
#[].extract ((0 : Nat) + min (k - (0 : Nat)) (g.s.data.size - (0 : Nat)))).toList.getD
k1 (0 : UInt8)).toNat :
Int).fdiv
((2 : Int) ^ min (Int.toNat (4 : Int)) IntKind.u8.bits) =
(↑k2 : Int) ∧
k2 <
(ByteArray.mk #[(48 : UInt8), (49 : UInt8), (50 : UInt8), (51 : UInt8), (52 : UInt8), (53 : UInt8), (54 : UInt8), (55 : UInt8),
(56 : UInt8), (57 : UInt8), (97 : UInt8), (98 : UInt8), (99 : UInt8), (100 : UInt8), (101 : UInt8),
(102 : UInt8)]).size ∧
∃ (k3 : Nat),
(0 : Int) = (↑k3 : Int) ∧
k3 < (g.s.extract (0 : Nat) k).size ∧
∃ (k4 : Nat),
IntKind.u8.wrap
(↑(BitVec.ofInt IntKind.u8.bits
(↑((#[].extract (0 : Nat) (0 : Nat) ++ g.s.data.extract (0 : Nat) ((0 : Nat) + (k - (0 : Nat))) ++
#[].extract ((0 : Nat) + min (k - (0 : Nat)) (g.s.data.size - (0 : Nat)))).toList.getD
k3 (0 : UInt8)).toNat :
Int) &&&
BitVec.ofInt IntKind.u8.bits (15 : Int)).toNat :
Int) =
(↑k4 : Int) ∧
k4 <
(ByteArray.mk #[(48 : UInt8), (49 : UInt8), (50 : UInt8), (51 : UInt8), (52 : UInt8), (53 : UInt8), (54 : UInt8), (55 : UInt8),
(56 : UInt8), (57 : UInt8), (97 : UInt8), (98 : UInt8), (99 : UInt8), (100 : UInt8), (101 : UInt8),
(102 : UInt8)]).size ∧
∀ (b1 : Nat) (w12 : World),
New w11
(Obj.cells
#[Value.int IntKind.u8
(↑([(48 : UInt8), (49 : UInt8), (50 : UInt8), (51 : UInt8), (52 : UInt8), (53 : UInt8), (54 : UInt8), (55 : UInt8),
(56 : UInt8), (57 : UInt8), (97 : UInt8), (98 : UInt8), (99 : UInt8), (100 : UInt8), (101 : UInt8), (102 : UInt8)].getD
k2 (0 : UInt8)).toNat :
Int),
Value.int IntKind.u8
(↑([(48 : UInt8), (49 : UInt8), (50 : UInt8), (51 : UInt8), (52 : UInt8), (53 : UInt8), (54 : UInt8), (55 : UInt8),
(56 : UInt8), (57 : UInt8), (97 : UInt8), (98 : UInt8), (99 : UInt8), (100 : UInt8), (101 : UInt8), (102 : UInt8)].getD
k4 (0 : UInt8)).toNat :
Int)]
(5 : Nat))
b1 w12 →
∃ (str : ByteArray),
BytesIn w12 (some { block := b1, off := (0 : Nat) }) (2 : Nat) str ∧
(ByteArray.mk #[(60 : UInt8)]).size + str.size ≤ (9223372036854775807 : Nat) ∧
((ByteArray.mk #[(60 : UInt8)]) ++ str).size + (ByteArray.mk #[(62 : UInt8)]).size ≤ (9223372036854775807 : Nat) ∧
∃ (x2 : ByteArray × Nat),
Value.tuple
#[Value.string ((ByteArray.mk #[(60 : UInt8)]) ++ str ++ (ByteArray.mk #[(62 : UInt8)])), Value.int IntKind.i64 (4 : Int)] =
Value.tuple #[Value.string x2.fst, Value.int IntKind.i64 (↑x2.snd : Int)] ∧
x2 = textC g.s g.col g.l ∧ Ext w w12)
((runesV (g.s.extract (0 : Nat) k)).length ≤ (70368744177664 : Nat) ∧
∀ (c b1 : Nat) (w11 : World),
NewRunes w'1 (g.s.extract (0 : Nat) k) (21 : Nat) c b1 w11 →
∃ (n : Int),
w11.cell? { block := b, off := (0 : Nat) } = some (Value.int IntKind.i64 n) ∧
∃ (b2 : Bool),
w11.cell? { block := b, off := (1 : Nat) } = some (Value.bool b2) ∧
∃ (n1 : Int),
w11.cell? { block := b, off := (2 : Nat) } = some (Value.int IntKind.i8 n1) ∧
∃ (b3 : Bool),
w11.cell? { block := b, off := (3 : Nat) } = some (Value.bool b3) ∧
∃ (b4 : Bool),
w11.cell? { block := b, off := (4 : Nat) } = some (Value.bool b4) ∧
∃ (g3 : GK6),
#[Value.string (g.s.extract (0 : Nat) k),
Value.slice (some { block := b1, off := (0 : Nat) }) (runesV (g.s.extract (0 : Nat) k)).length c,
Value.int IntKind.i64 g.col,
Value.agg #[Value.int IntKind.i64 n, Value.bool b2, Value.int IntKind.i8 n1, Value.bool b3, Value.bool b4]] =
#[Value.string g3.k, Value.slice g3.a (cnt g3.k) g3.c, Value.int IntKind.i64 g3.col,
Value.agg
#[Value.int IntKind.i64 g3.l.tab, Value.bool g3.l.wide, Value.int IntKind.i8 g3.l.want, Value.bool g3.l.join,
Value.bool g3.l.raw]] ∧
(DB w11 ∧
g3.k.size ≤ (67108864 : Nat) ∧
ncl g3.k = (1 : Nat) ∧
isBad g3.k (0 : Nat) = false ∧ cnt g3.k ≤ g3.c ∧ CellsAt w11 g3.a (List.map (Value.int IntKind.i32) (runes g3.k))) ∧
∀ (x2 : ByteArray × Nat) (w'2 : World),
x2 = oneC g3.k g3.col g3.l ∧ Ext w11 w'2 →
∃ (x3 : ByteArray × Nat),
Value.tuple #[Value.string x2.fst, Value.int IntKind.i64 (↑x2.snd : Int)] =
Value.tuple #[Value.string x3.fst, Value.int IntKind.i64 (↑x3.snd : Int)] ∧
x3 = textC g.s g.col g.l ∧ Ext w w'2))) :
    (sTextC).Ok Tryd.prog 45 :=
  ok_of_vc sTextC (annOf spTextP) spTextP (fun _ _ => rfl) (fun _ _ => rfl) hsp Tryd.func45 rfl (n := 3) (fun _ => rfl) (by kernel_rfl) (vcast (by kernel_rfl) h)

set_option maxRecDepth 1000000 in
theorem tab_vc (hsp : SpecsOk Tryd.prog []) (h : ∀ (g : Int × Lk) (w : World),
True →
∀ (b : Nat) (w1 : World),
New w
(Obj.cells
#[Value.int IntKind.i64 g.snd.tab, Value.bool g.snd.wide, Value.int IntKind.i8 g.snd.want, Value.bool g.snd.join,
Value.bool g.snd.raw]
(57 : Nat))
b w1 →
∃ (n : Int),
w1.cell? { block := b, off := (0 : Nat) } = some (Value.int IntKind.i64 n) ∧
bcase (decide (n < (1 : Int)) || decide (n > (16 : Int)))
(bcase (decide (g.fst < (0 : Int)))
((0 : Int) ≤ (0 : Int) ∧
(0 : Int) < (8 : Int) ∧
InR IntKind.i64 ((8 : Int) - (0 : Int) % (8 : Int)) ∧
∃ (x : Nat), Value.int IntKind.i64 (8 : Int) = Value.int IntKind.i64 (↑x : Int) ∧ x = stopN g.fst g.snd.tab ∧ Ext w w1)
((0 : Int) ≤ g.fst ∧
(0 : Int) < (8 : Int) ∧
InR IntKind.i64 ((8 : Int) - g.fst % (8 : Int)) ∧
∃ (x : Nat),
Value.int IntKind.i64 ((8 : Int) - g.fst % (8 : Int)) = Value.int IntKind.i64 (↑x : Int) ∧
x = stopN g.fst g.snd.tab ∧ Ext w w1))
(bcase (decide (g.fst < (0 : Int)))
((0 : Int) ≤ (0 : Int) ∧
(0 : Int) < n ∧
InR IntKind.i64 (n - (0 : Int) % n) ∧
∃ (x : Nat),
Value.int IntKind.i64 (n - (0 : Int) % n) = Value.int IntKind.i64 (↑x : Int) ∧ x = stopN g.fst g.snd.tab ∧ Ext w w1)
((0 : Int) ≤ g.fst ∧
(0 : Int) < n ∧
InR IntKind.i64 (n - g.fst % n) ∧
∃ (x : Nat),
Value.int IntKind.i64 (n - g.fst % n) = Value.int IntKind.i64 (↑x : Int) ∧ x = stopN g.fst g.snd.tab ∧ Ext w w1))) :
    (sStop).Ok Tryd.prog 116 :=
  ok_of_vc sStop (annOf []) [] (fun _ _ => rfl) (fun _ _ => rfl) hsp Tryd.func116 rfl (n := 2) (fun _ => rfl) (by kernel_rfl) (vcast (by kernel_rfl) h)

set_option maxRecDepth 1000000 in
theorem oneR_vc (hsp : SpecsOk Tryd.prog spOneR) (h : ∀ (g : GK6) (w : World),
g.k.size ≤ (67108864 : Nat) ∧
ncl g.k = (1 : Nat) ∧ cnt g.k ≤ g.c ∧ CellsAt w g.a (List.flatMap (sgnV g.k) (List.range (cnt g.k))) →
∀ (b : Nat) (w1 : World),
New w
(Obj.cells
#[Value.int IntKind.i64 g.l.tab, Value.bool g.l.wide, Value.int IntKind.i8 g.l.want, Value.bool g.l.join,
Value.bool g.l.raw]
(57 : Nat))
b w1 →
∃ (k : Nat),
(0 : Int) = (↑k : Int) ∧
k < cnt g.k ∧
ptrE g.a fun (b1 o : Nat) =>
∃ (n : Int),
w1.cell? { block := b1, off := o + k * (3 : Nat) } = some (Value.int IntKind.i32 n) ∧
∃ (k1 : Nat),
(0 : Int) = (↑k1 : Int) ∧
k1 < cnt g.k ∧
ptrE g.a fun (b2 o1 : Nat) =>
∃ (b3 : Bool),
w1.cell? { block := b2, off := o1 + k1 * (3 : Nat) + (2 : Nat) } = some (Value.bool b3) ∧
bcase b3
(∀ (w11 : World),
Drew w1 w11 →
∃ (k2 : Nat),
(0 : Int) = (↑k2 : Int) ∧
k2 < g.k.size ∧
(0 : Int) ≤ (↑(g.k.data.toList.getD k2 (0 : UInt8)).toNat : Int) ∧
(0 : Int) < (16 : Int) ∧
InR IntKind.u8 ((↑(g.k.data.toList.getD k2 (0 : UInt8)).toNat : Int) / (16 : Int)) ∧
∃ (k3 : Nat),
(↑(g.k.data.toList.getD k2 (0 : UInt8)).toNat : Int) / (16 : Int) = (↑k3 : Int) ∧
k3 <
(ByteArray.mk #[(48 : UInt8), (49 : UInt8), (50 : UInt8), (51 : UInt8), (52 : UInt8), (53 : UInt8), (54 : UInt8), (55 : UInt8),
(56 : UInt8), (57 : UInt8), (97 : UInt8), (98 : UInt8), (99 : UInt8), (100 : UInt8), (101 : UInt8),
(102 : UInt8)]).size ∧
∃ (k4 : Nat),
(0 : Int) = (↑k4 : Int) ∧
k4 < g.k.size ∧
(0 : Int) ≤ (↑(g.k.data.toList.getD k4 (0 : UInt8)).toNat : Int) ∧
(0 : Int) < (16 : Int) ∧
∃ (k5 : Nat),
(↑(g.k.data.toList.getD k4 (0 : UInt8)).toNat : Int) % (16 : Int) = (↑k5 : Int) ∧
k5 <
(ByteArray.mk #[(48 : UInt8), (49 : UInt8), (50 : UInt8), (51 : UInt8), (52 : UInt8), (53 : UInt8), (54 : UInt8), (55 : UInt8),
(56 : UInt8), (57 : UInt8), (97 : UInt8), (98 : UInt8), (99 : UInt8), (100 : UInt8), (101 : UInt8),
(102 : UInt8)]).size ∧
∀ (b4 : Nat) (w12 : World),
New w11
(Obj.cells
#[Value.int IntKind.u8
(↑([(48 : UInt8), (49 : UInt8), (50 : UInt8), (51 : UInt8), (52 : UInt8), (53 : UInt8), (54 : UInt8), (55 : UInt8),
(56 : UInt8), (57 : UInt8), (97 : UInt8), (98 : UInt8), (99 : UInt8), (100 : UInt8), (101 : UInt8), (102 : UInt8)].getD
k3 (0 : UInt8)).toNat :
Int),
Value.int IntKind.u8
(↑([(48 : UInt8), (49 : UInt8), (50 : UInt8), (51 : UInt8), (52 : UInt8), (53 : UInt8), (54 : UInt8), (55 : UInt8),
(56 : UInt8), (57 : UInt8), (97 : UInt8), (98 : UInt8), (99 : UInt8), (100 : UInt8), (101 : UInt8), (102 : UInt8)].getD
k5 (0 : UInt8)).toNat :
Int)]
(5 : Nat))
b4 w12 →
∃ (str : ByteArray),
BytesIn w12 (some { block := b4, off := (0 : Nat) }) (2 : Nat) str ∧
(ByteArray.mk #[(60 : UInt8)]).size + str.size ≤ (9223372036854775807 : Nat) ∧
((ByteArray.mk #[(60 : UInt8)]) ++ str).size + (ByteArray.mk #[(62 : UInt8)]).size ≤ (9223372036854775807 : Nat) ∧
∃ (x : ByteArray × Nat),
Value.tuple
#[Value.string ((ByteArray.mk #[(60 : UInt8)]) ++ str ++ (ByteArray.mk #[(62 : UInt8)])), Value.int IntKind.i64 (4 : Int)] =
Value.tuple #[Value.string x.fst, Value.int IntKind.i64 (↑x.snd : Int)] ∧
x = oneC g.k g.col g.l ∧ Ext w w12)
(bcase (n == (9 : Int))
(∃ (n1 : Int),
w1.cell? { block := b, off := (0 : Nat) } = some (Value.int IntKind.i64 n1) ∧
∃ (b4 : Bool),
w1.cell? { block := b, off := (1 : Nat) } = some (Value.bool b4) ∧
∃ (n2 : Int),
w1.cell? { block := b, off := (2 : Nat) } = some (Value.int IntKind.i8 n2) ∧
∃ (b5 : Bool),
w1.cell? { block := b, off := (3 : Nat) } = some (Value.bool b5) ∧
∃ (b6 : Bool),
w1.cell? { block := b, off := (4 : Nat) } = some (Value.bool b6) ∧
∃ (g1 : Int × Lk),
#[Value.int IntKind.i64 g.col,
Value.agg #[Value.int IntKind.i64 n1, Value.bool b4, Value.int IntKind.i8 n2, Value.bool b5, Value.bool b6]] =
#[Value.int IntKind.i64 g1.fst,
Value.agg
#[Value.int IntKind.i64 g1.snd.tab, Value.bool g1.snd.wide, Value.int IntKind.i8 g1.snd.want, Value.bool g1.snd.join,
Value.bool g1.snd.raw]] ∧
True ∧
∀ (x : Nat) (w' : World),
x = stopN g1.fst g1.snd.tab ∧ Ext w1 w' →
∃ (g2 : Nat),
#[Value.int IntKind.i64 (↑x : Int)] = #[Value.int IntKind.i64 (↑g2 : Int)] ∧
g2 ≤ (16 : Nat) ∧
∀ (x1 : ByteArray) (w'1 : World),
x1 = blankS g2 ∧ Ext w' w'1 →
∃ (x2 : ByteArray × Nat),
Value.tuple #[Value.string x1, Value.int IntKind.i64 (↑x : Int)] =
Value.tuple #[Value.string x2.fst, Value.int IntKind.i64 (↑x2.snd : Int)] ∧
x2 = oneC g.k g.col g.l ∧ Ext w w'1)
(bcase
(g.k.toList == (ByteArray.mk #[(10 : UInt8)]).toList || g.k.toList == (ByteArray.mk #[(13 : UInt8), (10 : UInt8)]).toList)
(∃ (x : ByteArray × Nat),
Value.tuple #[Value.string (ByteArray.mk #[]), Value.int IntKind.i64 (0 : Int)] =
Value.tuple #[Value.string x.fst, Value.int IntKind.i64 (↑x.snd : Int)] ∧
x = oneC g.k g.col g.l ∧ Ext w w1)
(bcase (decide (n < (32 : Int)))
(InR IntKind.u8 n ∧
InR IntKind.u8 (n + (64 : Int)) ∧
∀ (b4 : Nat) (w11 : World),
New w1 (Obj.cells #[Value.int IntKind.u8 (n + (64 : Int))] (5 : Nat)) b4 w11 →
∃ (str : ByteArray),
BytesIn w11 (some { block := b4, off := (0 : Nat) }) (1 : Nat) str ∧
(ByteArray.mk #[(94 : UInt8)]).size + str.size ≤ (9223372036854775807 : Nat) ∧
∃ (x : ByteArray × Nat),
Value.tuple #[Value.string ((ByteArray.mk #[(94 : UInt8)]) ++ str), Value.int IntKind.i64 (2 : Int)] =
Value.tuple #[Value.string x.fst, Value.int IntKind.i64 (↑x.snd : Int)] ∧
x = oneC g.k g.col g.l ∧ Ext w w11)
(bcase (n == (127 : Int))
(∃ (x : ByteArray × Nat),
Value.tuple #[Value.string (ByteArray.mk #[(94 : UInt8), (63 : UInt8)]), Value.int IntKind.i64 (2 : Int)] =
Value.tuple #[Value.string x.fst, Value.int IntKind.i64 (↑x.snd : Int)] ∧
x = oneC g.k g.col g.l ∧ Ext w w1)
(∃ (g1 : Int),
#[Value.int IntKind.i32 n] = #[Value.int IntKind.i32 g1] ∧
True ∧
∀ (x : Int) (w' : World),
x = kindR g1 ∧ w' = w1 →
bcase (decide (n ≥ (128 : Int)))
(bcase (decide (n ≤ (159 : Int))) (∃ (c : Unit), Value.bool true = Value.bool (fmtB (sg g.k (0 : Nat))) ∧ Ext w' w')
(bcase (n == (8232 : Int)) (∃ (c : Unit), Value.bool true = Value.bool (fmtB (sg g.k (0 : Nat))) ∧ Ext w' w')
(bcase (n == (8233 : Int)) (∃ (c : Unit), Value.bool true = Value.bool (fmtB (sg g.k (0 : Nat))) ∧ Ext w' w')
(bcase (x == (1 : Int))
(∃ (g2 : Int),
#[Value.int IntKind.i32 n] = #[Value.int IntKind.i32 g2] ∧
True ∧
∀ (x1 : Bool) (w'1 : World),
x1 = joinB g2 ∧ Ext w' w'1 → ∃ (c : Unit), (Value.bool !x1) = Value.bool (fmtB (sg g.k (0 : Nat))) ∧ Ext w' w'1)
(∃ (c : Unit), Value.bool false = Value.bool (fmtB (sg g.k (0 : Nat))) ∧ Ext w' w')))))
(bcase (n == (8232 : Int)) (∃ (c : Unit), Value.bool true = Value.bool (fmtB (sg g.k (0 : Nat))) ∧ Ext w' w')
(bcase (n == (8233 : Int)) (∃ (c : Unit), Value.bool true = Value.bool (fmtB (sg g.k (0 : Nat))) ∧ Ext w' w')
(bcase (x == (1 : Int))
(∃ (g2 : Int),
#[Value.int IntKind.i32 n] = #[Value.int IntKind.i32 g2] ∧
True ∧
∀ (x1 : Bool) (w'1 : World),
x1 = joinB g2 ∧ Ext w' w'1 → ∃ (c : Unit), (Value.bool !x1) = Value.bool (fmtB (sg g.k (0 : Nat))) ∧ Ext w' w'1)
(∃ (c : Unit), Value.bool false = Value.bool (fmtB (sg g.k (0 : Nat))) ∧ Ext w' w')))) ∧
∀ (u : Nat → Value) (c : Unit) (w'1 : World),
Ext w' w'1 →
bcase (fmtB (sg g.k (0 : Nat)))
(∃ (b4 : Bool),
w'1.cell? { block := b, off := (4 : Nat) } = some (Value.bool b4) ∧
bcase (!b4)
(∃ (x1 : ByteArray × Nat),
Value.tuple #[Value.string (ByteArray.mk #[]), Value.int IntKind.i64 (0 : Int)] =
Value.tuple #[Value.string x1.fst, Value.int IntKind.i64 (↑x1.snd : Int)] ∧
x1 = oneC g.k g.col g.l ∧ Ext w w'1)
(∃ (g2 : Nat),
#[Value.int IntKind.i32 n] = #[Value.int IntKind.i32 (↑g2 : Int)] ∧
((16 : Nat) ≤ g2 ∧ g2 ≤ (1114111 : Nat)) ∧
∀ (x1 : ByteArray) (w'2 : World),
x1 = strL (numS g2 (numJ g2)) ∧ Ext w'1 w'2 →
(ByteArray.mk #[(60 : UInt8)]).size + x1.size ≤ (9223372036854775807 : Nat) ∧
((ByteArray.mk #[(60 : UInt8)]) ++ x1).size + (ByteArray.mk #[(62 : UInt8)]).size ≤ (9223372036854775807 : Nat) ∧
InR IntKind.i64 ((↑x1.size : Int) + (2 : Int)) ∧
∃ (x2 : ByteArray × Nat),
Value.tuple
#[Value.string ((ByteArray.mk #[(60 : UInt8)]) ++ x1 ++ (ByteArray.mk #[(62 : UInt8)])),
Value.int IntKind.i64 ((↑x1.size : Int) + (2 : Int))] =
Value.tuple #[Value.string x2.fst, Value.int IntKind.i64 (↑x2.snd : Int)] ∧
x2 = oneC g.k g.col g.l ∧ Ext w w'2))
(bcase (x == (2 : Int))
(∃ (c1 : Unit),
Value.bool true = Value.bool (kindR (sg g.k (0 : Nat)) == (2 : Int) || joinB (sg g.k (0 : Nat))) ∧ Ext w'1 w'1)
(∃ (g2 : Int),
#[Value.int IntKind.i32 n] = #[Value.int IntKind.i32 g2] ∧
True ∧
∀ (x1 : Bool) (w'2 : World),
x1 = joinB g2 ∧ Ext w'1 w'2 →
∃ (c1 : Unit),
Value.bool x1 = Value.bool (kindR (sg g.k (0 : Nat)) == (2 : Int) || joinB (sg g.k (0 : Nat))) ∧ Ext w'1 w'2) ∧
∀ (u1 : Nat → Value) (c1 : Unit) (w'2 : World),
Ext w'1 w'2 →
bcase (kindR (sg g.k (0 : Nat)) == (2 : Int) || joinB (sg g.k (0 : Nat)))
(bcase ((↑(cnt g.k) : Int) == (32 : Int))
(InR IntKind.i64 ((↑(cnt g.k) : Int) - (1 : Int)) ∧
∃ (k2 : Nat),
(↑(cnt g.k) : Int) - (1 : Int) = (↑k2 : Int) ∧
k2 < cnt g.k ∧
ptrE g.a fun (b4 o2 : Nat) =>
∃ (n1 : Int),
w'2.cell? { block := b4, off := o2 + k2 * (3 : Nat) + (1 : Nat) } = some (Value.int IntKind.i64 n1) ∧
∃ (k3 : Nat),
n1 = (↑k3 : Int) ∧
(0 : Nat) ≤ k3 ∧
k3 ≤ g.k.size ∧
∀ (b5 : Nat) (w11 : World),
New w'2 (Obj.cells #[Value.int IntKind.i32 (9676 : Int)] (21 : Nat)) b5 w11 →
∃ (g2 : GSl),
#[Value.slice (some { block := b5, off := (0 : Nat) }) (1 : Nat) (1 : Nat)] = #[Value.slice g2.ad g2.xs.length g2.c] ∧
(GSl.at IntKind.i32 g2 w11 ∧ g2.xs.length ≤ (67108864 : Nat)) ∧
∀ (x1 : ByteArray) (w'3 : World),
x1 = runesBytes g2.xs ∧ Ext w11 w'3 →
x1.size + (g.k.extract (0 : Nat) k3).size ≤ (9223372036854775807 : Nat) ∧
∃ (x2 : ByteArray × Nat),
Value.tuple #[Value.string (x1 ++ g.k.extract (0 : Nat) k3), Value.int IntKind.i64 (1 : Int)] =
Value.tuple #[Value.string x2.fst, Value.int IntKind.i64 (↑x2.snd : Int)] ∧
x2 = oneC g.k g.col g.l ∧ Ext w w'3)
(∀ (b4 : Nat) (w11 : World),
New w'2 (Obj.cells #[Value.int IntKind.i32 (9676 : Int)] (21 : Nat)) b4 w11 →
∃ (g2 : GSl),
#[Value.slice (some { block := b4, off := (0 : Nat) }) (1 : Nat) (1 : Nat)] = #[Value.slice g2.ad g2.xs.length g2.c] ∧
(GSl.at IntKind.i32 g2 w11 ∧ g2.xs.length ≤ (67108864 : Nat)) ∧
∀ (x1 : ByteArray) (w'3 : World),
x1 = runesBytes g2.xs ∧ Ext w11 w'3 →
x1.size + g.k.size ≤ (9223372036854775807 : Nat) ∧
∃ (x2 : ByteArray × Nat),
Value.tuple #[Value.string (x1 ++ g.k), Value.int IntKind.i64 (1 : Int)] =
Value.tuple #[Value.string x2.fst, Value.int IntKind.i64 (↑x2.snd : Int)] ∧
x2 = oneC g.k g.col g.l ∧ Ext w w'3))
(bcase (decide ((↑(cnt g.k) : Int) > (1 : Int)))
(∃ (g2 : Int),
#[Value.int IntKind.i32 n] = #[Value.int IntKind.i32 g2] ∧
True ∧
∀ (x1 : Bool) (w'3 : World),
x1 = regB g2 ∧ Ext w'2 w'3 →
bcase x1
(∃ (k2 : Nat),
(1 : Int) = (↑k2 : Int) ∧
k2 < cnt g.k ∧
ptrE g.a fun (b4 o2 : Nat) =>
∃ (n1 : Int),
w'3.cell? { block := b4, off := o2 + k2 * (3 : Nat) } = some (Value.int IntKind.i32 n1) ∧
∃ (g3 : Int),
#[Value.int IntKind.i32 n1] = #[Value.int IntKind.i32 g3] ∧
True ∧
∀ (x2 : Bool) (w'4 : World),
x2 = regB g3 ∧ Ext w'3 w'4 →
∃ (c2 : Unit), Value.bool x2 = Value.bool (regB (sg g.k (0 : Nat)) && regB (secR g.k)) ∧ Ext w'2 w'4)
(∃ (c2 : Unit), Value.bool false = Value.bool (regB (sg g.k (0 : Nat)) && regB (secR g.k)) ∧ Ext w'2 w'3))
(∃ (c2 : Unit), Value.bool false = Value.bool (regB (sg g.k (0 : Nat)) && regB (secR g.k)) ∧ Ext w'2 w'2) ∧
∀ (u2 : Nat → Value) (c2 : Unit) (w'3 : World),
Ext w'2 w'3 →
bcase (regB (sg g.k (0 : Nat)) && regB (secR g.k))
(∃ (x1 : ByteArray × Nat),
Value.tuple #[Value.string g.k, Value.int IntKind.i64 (2 : Int)] =
Value.tuple #[Value.string x1.fst, Value.int IntKind.i64 (↑x1.snd : Int)] ∧
x1 = oneC g.k g.col g.l ∧ Ext w w'3)
(∃ (b4 : Bool),
w'3.cell? { block := b, off := (1 : Nat) } = some (Value.bool b4) ∧
∃ (g2 : Int × Bool),
#[Value.int IntKind.i32 n, Value.bool b4] = #[Value.int IntKind.i32 g2.fst, Value.bool g2.snd] ∧
True ∧
∀ (x1 : Int) (w'4 : World),
x1 = wideR g2.fst g2.snd ∧ w'4 = w'3 →
bcase (x == (7 : Int))
(bcase (x1 == (1 : Int))
(bcase (decide ((↑(cnt g.k) : Int) > (1 : Int)))
(∃ (k2 : Nat),
(1 : Int) = (↑k2 : Int) ∧
k2 < cnt g.k ∧
ptrE g.a fun (b5 o2 : Nat) =>
∃ (n1 : Int),
w'4.cell? { block := b5, off := o2 + k2 * (3 : Nat) } = some (Value.int IntKind.i32 n1) ∧
∃ (c3 : Unit),
Value.bool (n1 == (65039 : Int)) =
Value.bool
(kindR (sg g.k (0 : Nat)) == (7 : Int) && wideR (sg g.k (0 : Nat)) g.l.wide == (1 : Int) && secR g.k == (65039 : Int)) ∧
Ext w'4 w'4)
(∃ (c3 : Unit),
Value.bool false =
Value.bool
(kindR (sg g.k (0 : Nat)) == (7 : Int) && wideR (sg g.k (0 : Nat)) g.l.wide == (1 : Int) && secR g.k == (65039 : Int)) ∧
Ext w'4 w'4))
(∃ (c3 : Unit),
Value.bool false =
Value.bool
(kindR (sg g.k (0 : Nat)) == (7 : Int) && wideR (sg g.k (0 : Nat)) g.l.wide == (1 : Int) && secR g.k == (65039 : Int)) ∧
Ext w'4 w'4))
(∃ (c3 : Unit),
Value.bool false =
Value.bool
(kindR (sg g.k (0 : Nat)) == (7 : Int) && wideR (sg g.k (0 : Nat)) g.l.wide == (1 : Int) && secR g.k == (65039 : Int)) ∧
Ext w'4 w'4) ∧
∀ (u3 : Nat → Value) (c3 : Unit) (w'5 : World),
Ext w'4 w'5 →
bcase
(kindR (sg g.k (0 : Nat)) == (7 : Int) && wideR (sg g.k (0 : Nat)) g.l.wide == (1 : Int) && secR g.k == (65039 : Int))
(∃ (x2 : ByteArray × Nat),
Value.tuple #[Value.string g.k, Value.int IntKind.i64 (2 : Int)] =
Value.tuple #[Value.string x2.fst, Value.int IntKind.i64 (↑x2.snd : Int)] ∧
x2 = oneC g.k g.col g.l ∧ Ext w w'5)
(bcase (x1 == (0 : Int))
(∃ (x2 : ByteArray × Nat),
Value.tuple #[Value.string (ByteArray.mk #[]), Value.int IntKind.i64 (0 : Int)] =
Value.tuple #[Value.string x2.fst, Value.int IntKind.i64 (↑x2.snd : Int)] ∧
x2 = oneC g.k g.col g.l ∧ Ext w w'5)
(∃ (x2 : ByteArray × Nat),
Value.tuple #[Value.string g.k, Value.int IntKind.i64 x1] =
Value.tuple #[Value.string x2.fst, Value.int IntKind.i64 (↑x2.snd : Int)] ∧
x2 = oneC g.k g.col g.l ∧ Ext w w'5))))))))))) :
    (sOneR).Ok Tryd.prog 79 :=
  ok_of_vc sOneR annOneR spOneR (fun _ _ => rfl) (fun _ _ => rfl) hsp Tryd.func79 rfl (n := 4) (fun _ => rfl) (by kernel_rfl) (vcast (by kernel_rfl) h)

set_option maxRecDepth 1000000 in
theorem textR_vc (hsp : SpecsOk Tryd.prog spTextR) (h : ∀ (g : GT6) (w : World),
U8 w ∧ DB w ∧ g.s.size ≤ (67108864 : Nat) →
∀ (b : Nat) (w1 : World),
New w
(Obj.cells
#[Value.int IntKind.i64 g.l.tab, Value.bool g.l.wide, Value.int IntKind.i8 g.l.want, Value.bool g.l.join,
Value.bool g.l.raw]
(57 : Nat))
b w1 →
∃ (g1 : ByteArray),
#[Value.string g.s] = #[Value.string g1] ∧
(U8 w1 ∧ g1.size ≤ (67108864 : Nat)) ∧
∀ (x : Nat) (w' : World),
x = nextL g1 ∧ Ext w1 w' →
∃ (k : Nat),
(↑x : Int) = (↑k : Int) ∧
(0 : Nat) ≤ k ∧
k ≤ g.s.size ∧
bcase ((g.s.extract (0 : Nat) k).toList == (ByteArray.mk #[]).toList)
(∃ (x1 : ByteArray × Nat),
Value.tuple #[Value.string (ByteArray.mk #[]), Value.int IntKind.i64 (0 : Int)] =
Value.tuple #[Value.string x1.fst, Value.int IntKind.i64 (↑x1.snd : Int)] ∧
x1 = textC g.s g.col g.l ∧ Ext w w')
(∀ (w11 : World),
Drew w' w11 →
∃ (n : Int),
w'.cell? { block := b, off := (0 : Nat) } = some (Value.int IntKind.i64 n) ∧
∃ (b1 : Bool),
w'.cell? { block := b, off := (1 : Nat) } = some (Value.bool b1) ∧
∃ (n1 : Int),
w'.cell? { block := b, off := (2 : Nat) } = some (Value.int IntKind.i8 n1) ∧
∃ (b2 : Bool),
w'.cell? { block := b, off := (3 : Nat) } = some (Value.bool b2) ∧
∃ (b3 : Bool),
w'.cell? { block := b, off := (4 : Nat) } = some (Value.bool b3) ∧
∃ (g2 : ByteArray),
#[Value.string (g.s.extract (0 : Nat) k)] = #[Value.string g2] ∧
(U8 w11 ∧ g2.size ≤ (67108864 : Nat)) ∧
∀ (x1 : Option Addr × Nat × Nat) (w'1 : World),
x1.snd.fst = cnt g2 ∧
Made w11 w'1 (103 : TypeId) (3 : Nat) x1.fst x1.snd.fst (List.flatMap (sgnV g2) (List.range (cnt g2))) x1.snd.snd →
Below w11.heap.size w11 w'1 ∧
∃ (g3 : GK6),
#[Value.slice x1.fst x1.snd.fst x1.snd.snd, Value.string (g.s.extract (0 : Nat) k), Value.int IntKind.i64 g.col,
Value.agg #[Value.int IntKind.i64 n, Value.bool b1, Value.int IntKind.i8 n1, Value.bool b2, Value.bool b3]] =
#[Value.slice g3.a (cnt g3.k) g3.c, Value.string g3.k, Value.int IntKind.i64 g3.col,
Value.agg
#[Value.int IntKind.i64 g3.l.tab, Value.bool g3.l.wide, Value.int IntKind.i8 g3.l.want, Value.bool g3.l.join,
Value.bool g3.l.raw]] ∧
(g3.k.size ≤ (67108864 : Nat) ∧
ncl g3.k = (1 : Nat) ∧ cnt g3.k ≤ g3.c ∧ CellsAt w'1 g3.a (List.flatMap (sgnV g3.k) (List.range (cnt g3.k)))) ∧
∀ (x2 : ByteArray × Nat) (w'2 : World),
x2 = oneC g3.k g3.col g3.l ∧ Ext w'1 w'2 →
∃ (x3 : ByteArray × Nat),
Value.tuple #[Value.string x2.fst, Value.int IntKind.i64 (↑x2.snd : Int)] =
Value.tuple #[Value.string x3.fst, Value.int IntKind.i64 (↑x3.snd : Int)] ∧
x3 = textC g.s g.col g.l ∧ Ext w w'2)) :
    (sTextC).Ok Tryd.prog 46 :=
  ok_of_vc sTextC (annOf spTextR) spTextR (fun _ _ => rfl) (fun _ _ => rfl) hsp Tryd.func46 rfl (n := 3) (fun _ => rfl) (by kernel_rfl) (vcast (by kernel_rfl) h)

end Go.Proofs.YthpjkgoahneldaaDoor
end
