/-
  Texts joined by program: VgBd, VgBb, VgBa, VgI.
-/
import Derived.Test.YthpjkgoahneldaaDoorJb07
import Derived.Test.YthpjkgoahneldaaDoorProg
import Derived.KernelRfl
import Derived.Test.YthpjkgoahneldaaDoorJb06
set_option linter.unusedVariables false
set_option linter.unusedSimpArgs false

section
/-
  Verification conditions, printed by a program out of the specifications beside this text: each theorem says that the condition suffices. (Lean's kernel compares the printed condition with what 'wpE' computes.)
-/
set_option linter.unusedVariables false
namespace Go.Proofs.YthpjkgoahneldaaDoor
open Go Go.RowKit Vc Ut Tb Cl

set_option maxRecDepth 1000000 in
theorem wakes_vc (hsp : SpecsOk Tryd.prog spWakes) (h : ∀ (g : Unit) (w : World),
U8 w →
∃ (g1 : ByteArray),
#[Value.string (ByteArray.mk #[(97 : UInt8), (32 : UInt8), (98 : UInt8)])] = #[Value.string g1] ∧
(U8 w ∧ g1.size ≤ (67108864 : Nat)) ∧
∀ (x : Option Addr × Nat × Nat) (w' : World),
x.snd.fst = (whereL g1).length ∧
Made w w' (25 : TypeId) (1 : Nat) x.fst x.snd.fst (List.map (Value.int IntKind.i8) (whereL g1)) x.snd.snd →
∃ (g2 : ByteArray),
#[Value.string (ByteArray.mk #[(97 : UInt8), (10 : UInt8)])] = #[Value.string g2] ∧
(U8 w' ∧ g2.size ≤ (67108864 : Nat)) ∧
∀ (x1 : Option Addr × Nat × Nat) (w'1 : World),
x1.snd.fst = (whereL g2).length ∧
Made w' w'1 (25 : TypeId) (1 : Nat) x1.fst x1.snd.fst (List.map (Value.int IntKind.i8) (whereL g2)) x1.snd.snd →
∃ (g3 : ByteArray),
#[Value.string (ByteArray.mk #[(97 : UInt8), (10 : UInt8), (98 : UInt8)])] = #[Value.string g3] ∧
True ∧
∀ (x2 : Nat) (w'2 : World),
w'1.heap.size ≤ x2 ∧ w'2.heap[x2]? = some (Obj.cells #[Value.string g3] (9 : TypeId)) ∧ Ext w'1 w'2 →
bcase ((↑x.snd.fst : Int) != (3 : Int) || (↑x1.snd.fst : Int) != (2 : Int))
(∀ (w2 : World), Turn w.heap.size w'2 w2 → ∃ (x3 : Unit), Value.bool false = Value.bool true ∧ Ext w w2)
(∀ (b : Nat) (w1 : World),
New w'2 (Obj.cells #[Value.int IntKind.i64 (0 : Int)] (3 : Nat)) b w1 →
true = true ∧
(∃ (old : Value), w1.cell? { block := b, off := (0 : Nat) } = some old) ∧
w1.frozen? { block := b, off := (0 : Nat) } = false ∧
∀ (w11 : World),
Stored w1 { block := b, off := (0 : Nat) } (Value.int IntKind.i64 (0 : Int)) w11 →
∀ (b1 : Nat) (w12 : World),
New w11 (Obj.cells #[Value.string (ByteArray.mk #[])] (9 : Nat)) b1 w12 →
true = true ∧
(∃ (old : Value), w12.cell? { block := b1, off := (0 : Nat) } = some old) ∧
w12.frozen? { block := b1, off := (0 : Nat) } = false ∧
∀ (w13 : World),
Stored w12 { block := b1, off := (0 : Nat) } (Value.string (ByteArray.mk #[])) w13 →
∃ (xs : List (Nat × ByteArray)),
∃ (C : Nat → Prop),
∃ (D0 : Nat → Prop),
IterAt Tryd.prog (Value.func (Fn.func (62 : Nat)) #[] #[Value.pointer (some { block := x2, off := (0 : Nat) })])
(List.map encPc xs) C w13 ∧
DomOk w13 C D0 ∧
(D0 =
ones
[ptrB (Value.pointer (some { block := b, off := (0 : Nat) })),
ptrB (Value.pointer (some { block := b1, off := (0 : Nat) }))] ∧
w13.heap[ptrB (Value.pointer (some { block := b, off := (0 : Nat) }))]? =
some (Obj.cells #[Value.int IntKind.i64 (0 : Int)] (3 : TypeId)) ∧
w13.heap[ptrB (Value.pointer (some { block := b1, off := (0 : Nat) }))]? =
some (Obj.cells #[Value.string (wkS (0 : Nat))] (9 : TypeId))) ∧
(Stab w13.heap.size fun (k : Nat) (D : Nat → Prop) (W : World) =>
D =
ones
[ptrB (Value.pointer (some { block := b, off := (0 : Nat) })),
ptrB (Value.pointer (some { block := b1, off := (0 : Nat) }))] ∧
W.heap[ptrB (Value.pointer (some { block := b, off := (0 : Nat) }))]? =
some (Obj.cells #[Value.int IntKind.i64 (wkN k)] (3 : TypeId)) ∧
W.heap[ptrB (Value.pointer (some { block := b1, off := (0 : Nat) }))]? =
some (Obj.cells #[Value.string (wkS k)] (9 : TypeId))) ∧
(∀ (x3 : Exit), Stab w13.heap.size fun (x : Nat) (D : Nat → Prop) (W : World) => (1 : Nat) = (0 : Nat)) ∧
(∀ (k : Nat) (x3 : Nat × ByteArray) (D : Nat → Prop) (W : World),
xs[k]? = some x3 →
D =
ones
[ptrB (Value.pointer (some { block := b, off := (0 : Nat) })),
ptrB (Value.pointer (some { block := b1, off := (0 : Nat) }))] ∧
W.heap[ptrB (Value.pointer (some { block := b, off := (0 : Nat) }))]? =
some (Obj.cells #[Value.int IntKind.i64 (wkN k)] (3 : TypeId)) ∧
W.heap[ptrB (Value.pointer (some { block := b1, off := (0 : Nat) }))]? =
some (Obj.cells #[Value.string (wkS k)] (9 : TypeId)) →
Mid w13 D0 D W →
∃ (n : Int),
W.cell? { block := b, off := (0 : Nat) } = some (Value.int IntKind.i64 n) ∧
InR IntKind.i64 (n + (1 : Int)) ∧
InR IntKind.i64 (n + (1 : Int) + (↑x3.fst : Int)) ∧
true = true ∧
(∃ (old : Value), W.cell? { block := b, off := (0 : Nat) } = some old) ∧
W.frozen? { block := b, off := (0 : Nat) } = false ∧
∀ (w14 : World),
Stored W { block := b, off := (0 : Nat) } (Value.int IntKind.i64 (n + (1 : Int) + (↑x3.fst : Int))) w14 →
true = true ∧
(∃ (old : Value), w14.cell? { block := b1, off := (0 : Nat) } = some old) ∧
w14.frozen? { block := b1, off := (0 : Nat) } = false ∧
∀ (w15 : World),
Stored w14 { block := b1, off := (0 : Nat) } (Value.string x3.snd) w15 →
∃ (D' : Nat → Prop),
Step D W w15 D' ∧
D' =
ones
[ptrB (Value.pointer (some { block := b, off := (0 : Nat) })),
ptrB (Value.pointer (some { block := b1, off := (0 : Nat) }))] ∧
w15.heap[ptrB (Value.pointer (some { block := b, off := (0 : Nat) }))]? =
some (Obj.cells #[Value.int IntKind.i64 (wkN (k + (1 : Nat)))] (3 : TypeId)) ∧
w15.heap[ptrB (Value.pointer (some { block := b1, off := (0 : Nat) }))]? =
some (Obj.cells #[Value.string (wkS (k + (1 : Nat)))] (9 : TypeId))) ∧
(∀ (D : Nat → Prop) (W : World),
D =
ones
[ptrB (Value.pointer (some { block := b, off := (0 : Nat) })),
ptrB (Value.pointer (some { block := b1, off := (0 : Nat) }))] ∧
W.heap[ptrB (Value.pointer (some { block := b, off := (0 : Nat) }))]? =
some (Obj.cells #[Value.int IntKind.i64 (wkN (lenX xs))] (3 : TypeId)) ∧
W.heap[ptrB (Value.pointer (some { block := b1, off := (0 : Nat) }))]? =
some (Obj.cells #[Value.string (wkS (lenX xs))] (9 : TypeId)) →
Mid w13 D0 D W →
∃ (k : Nat),
(0 : Int) = (↑k : Int) ∧
k < x.snd.fst ∧
ptrE x.fst fun (b2 o : Nat) =>
∃ (n : Int),
W.cell? { block := b2, off := o + k } = some (Value.int IntKind.i8 n) ∧
bcase (n == (0 : Int))
(∃ (k1 : Nat),
(1 : Int) = (↑k1 : Int) ∧
k1 < x.snd.fst ∧
ptrE x.fst fun (b3 o1 : Nat) =>
∃ (n1 : Int),
W.cell? { block := b3, off := o1 + k1 } = some (Value.int IntKind.i8 n1) ∧
bcase (n1 == (1 : Int))
(∃ (k2 : Nat),
(2 : Int) = (↑k2 : Int) ∧
k2 < x.snd.fst ∧
ptrE x.fst fun (b4 o2 : Nat) =>
∃ (n2 : Int),
W.cell? { block := b4, off := o2 + k2 } = some (Value.int IntKind.i8 n2) ∧
bcase (n2 == (0 : Int))
(∃ (k3 : Nat),
(0 : Int) = (↑k3 : Int) ∧
k3 < x1.snd.fst ∧
ptrE x1.fst fun (b5 o3 : Nat) =>
∃ (n3 : Int),
W.cell? { block := b5, off := o3 + k3 } = some (Value.int IntKind.i8 n3) ∧
bcase (n3 == (0 : Int))
(∃ (k4 : Nat),
(1 : Int) = (↑k4 : Int) ∧
k4 < x1.snd.fst ∧
ptrE x1.fst fun (b6 o4 : Nat) =>
∃ (n4 : Int),
W.cell? { block := b6, off := o4 + k4 } = some (Value.int IntKind.i8 n4) ∧
bcase (n4 == (2 : Int))
(∃ (n5 : Int),
W.cell? { block := b, off := (0 : Nat) } = some (Value.int IntKind.i64 n5) ∧
bcase (n5 == (4 : Int))
(∃ (s : ByteArray),
W.cell? { block := b1, off := (0 : Nat) } = some (Value.string s) ∧
∀ (w2 : World),
Turn w.heap.size W w2 →
∃ (x3 : Unit), Value.bool (s.toList == (ByteArray.mk #[(98 : UInt8)]).toList) = Value.bool true ∧ Ext w w2)
(∀ (w2 : World), Turn w.heap.size W w2 → ∃ (x3 : Unit), Value.bool false = Value.bool true ∧ Ext w w2))
(∀ (w2 : World), Turn w.heap.size W w2 → ∃ (x3 : Unit), Value.bool false = Value.bool true ∧ Ext w w2))
(∀ (w2 : World), Turn w.heap.size W w2 → ∃ (x3 : Unit), Value.bool false = Value.bool true ∧ Ext w w2))
(∀ (w2 : World), Turn w.heap.size W w2 → ∃ (x3 : Unit), Value.bool false = Value.bool true ∧ Ext w w2))
(∀ (w2 : World), Turn w.heap.size W w2 → ∃ (x3 : Unit), Value.bool false = Value.bool true ∧ Ext w w2))
(∀ (w2 : World), Turn w.heap.size W w2 → ∃ (x3 : Unit), Value.bool false = Value.bool true ∧ Ext w w2)) ∧
True)) :
    ((sYes U8)).Ok Tryd.prog 22 :=
  ok_of_vc (sYes U8) annWakes spWakes (fun _ _ => rfl) (fun _ _ => rfl) hsp Tryd.func22 rfl (n := 0) (fun _ => rfl) (by kernel_rfl) (vcast (by kernel_rfl) h)

set_option maxRecDepth 1000000 in
theorem sameD_vc (hsp : SpecsOk Tryd.prog []) (h : ∀ (g : GTwo) (w : World),
GSl.at IntKind.i8 g.a w ∧ GSl.at IntKind.i8 g.b w →
bcase ((↑g.a.xs.length : Int) != (↑g.b.xs.length : Int))
(∃ (x : Bool), Value.bool false = Value.bool x ∧ x = decide (g.a.xs = g.b.xs) ∧ Ext w w)
((∃ (x : Nat),
Value.int IntKind.i64 (0 : Int) = Value.int IntKind.i64 (↑x : Int) ∧
x ≤ g.a.xs.length ∧ List.take x g.a.xs = List.take x g.b.xs ∧ Ext w w) ∧
∀ (u : Nat → Value) (x : Nat) (w' : World),
x ≤ g.a.xs.length ∧ List.take x g.a.xs = List.take x g.b.xs ∧ Ext w w' →
bcase (decide ((↑x : Int) < (↑g.a.xs.length : Int)))
(∀ (w1 : World),
Drew w' w1 →
∃ (k : Nat),
(↑x : Int) = (↑k : Int) ∧
k < g.a.xs.length ∧
ptrE g.a.ad fun (b o : Nat) =>
∃ (n : Int),
w'.cell? { block := b, off := o + k } = some (Value.int IntKind.i8 n) ∧
∃ (k1 : Nat),
(↑x : Int) = (↑k1 : Int) ∧
k1 < g.b.xs.length ∧
ptrE g.b.ad fun (b1 o1 : Nat) =>
∃ (n1 : Int),
w'.cell? { block := b1, off := o1 + k1 } = some (Value.int IntKind.i8 n1) ∧
bcase (n != n1) (∃ (x1 : Bool), Value.bool false = Value.bool x1 ∧ x1 = decide (g.a.xs = g.b.xs) ∧ Ext w w1)
(InR IntKind.i64 ((↑x : Int) + (1 : Int)) ∧
∃ (y : Nat),
Value.int IntKind.i64 ((↑x : Int) + (1 : Int)) = Value.int IntKind.i64 (↑y : Int) ∧
(y ≤ g.a.xs.length ∧ List.take y g.a.xs = List.take y g.b.xs ∧ Ext w w1) ∧ g.a.xs.length - y < g.a.xs.length - x))
(∃ (x1 : Bool), Value.bool true = Value.bool x1 ∧ x1 = decide (g.a.xs = g.b.xs) ∧ Ext w w'))) :
    ((sSame .i8)).Ok Tryd.prog 21 :=
  ok_of_vc (sSame .i8) annSameI [] (fun _ _ => rfl) (fun _ _ => rfl) hsp Tryd.func21 rfl (n := 2) (fun _ => rfl) (by kernel_rfl) (vcast (by kernel_rfl) h)

set_option maxRecDepth 1000000 in
theorem lawWh_vc (hsp : SpecsOk Tryd.prog spLawWh) (h : ∀ (g : ByteArray) (w : World),
U8 w ∧ g.size ≤ (1048576 : Nat) →
∃ (g1 : ByteArray),
#[Value.string g] = #[Value.string g1] ∧
(U8 w ∧ g1.size ≤ (67108864 : Nat)) ∧
∀ (x : Option Addr × Nat × Nat) (w' : World),
x.snd.fst = (whereL g1).length ∧
Made w w' (25 : TypeId) (1 : Nat) x.fst x.snd.fst (List.map (Value.int IntKind.i8) (whereL g1)) x.snd.snd →
∃ (g2 : ByteArray),
#[Value.string g] = #[Value.string g2] ∧
(U8 w' ∧ g2.size ≤ (67108864 : Nat)) ∧
∀ (x1 : Option Addr × Nat × Nat) (w'1 : World),
x1.snd.fst = (whereL g2).length ∧
Made w' w'1 (25 : TypeId) (1 : Nat) x1.fst x1.snd.fst (List.map (Value.int IntKind.i8) (whereL g2)) x1.snd.snd →
∃ (g3 : ByteArray),
#[Value.string g] = #[Value.string g3] ∧
(U8 w'1 ∧ g3.size ≤ (67108864 : Nat)) ∧
∀ (x2 : Option Addr × Nat × Nat) (w'2 : World),
x2.snd.fst = (whereL g3).length ∧
Made w'1 w'2 (25 : TypeId) (1 : Nat) x2.fst x2.snd.fst (List.map (Value.int IntKind.i8) (whereL g3)) x2.snd.snd →
∃ (g4 : GTwo),
#[Value.slice x1.fst x1.snd.fst x1.snd.snd, Value.slice x.fst x.snd.fst x.snd.snd] =
#[Value.slice g4.a.ad g4.a.xs.length g4.a.c, Value.slice g4.b.ad g4.b.xs.length g4.b.c] ∧
(GSl.at IntKind.i8 g4.a w'2 ∧ GSl.at IntKind.i8 g4.b w'2) ∧
∀ (x3 : Bool) (w'3 : World),
x3 = decide (g4.a.xs = g4.b.xs) ∧ Ext w'2 w'3 →
bcase (!x3) (∃ (x4 : Unit), Value.bool false = Value.bool true ∧ Ext w w'3)
(∃ (g5 : GTwo),
#[Value.slice x2.fst x2.snd.fst x2.snd.snd, Value.slice x.fst x.snd.fst x.snd.snd] =
#[Value.slice g5.a.ad g5.a.xs.length g5.a.c, Value.slice g5.b.ad g5.b.xs.length g5.b.c] ∧
(GSl.at IntKind.i8 g5.a w'3 ∧ GSl.at IntKind.i8 g5.b w'3) ∧
∀ (x4 : Bool) (w'4 : World),
x4 = decide (g5.a.xs = g5.b.xs) ∧ Ext w'3 w'4 →
bcase (!x4) (∃ (x5 : Unit), Value.bool false = Value.bool true ∧ Ext w w'4)
((∃ (x5 : Nat),
Value.int IntKind.i64 (0 : Int) = Value.int IntKind.i64 (↑x5 : Int) ∧
x5 ≤ ncl g ∧
Fr (fun (q : Nat) => adS (Value.slice x1.fst x1.snd.fst x1.snd.snd) = some q) w'4 w'4 ∧
∃ (a6 : Option Addr),
∃ (c : Nat),
∃ (vs : List Value),
Value.slice x1.fst x1.snd.fst x1.snd.snd = Value.slice a6 (ncl g) c ∧ Row w'4 (25 : TypeId) (1 : Nat) a6 (ncl g) vs c) ∧
∀ (u : Nat → Value) (x5 : Nat) (w'5 : World),
(x5 ≤ ncl g ∧
Fr (fun (q : Nat) => adS (Value.slice x1.fst x1.snd.fst x1.snd.snd) = some q) w'4 w'5 ∧
∃ (a6 : Option Addr),
∃ (c : Nat),
∃ (vs : List Value),
Value.slice x1.fst x1.snd.fst x1.snd.snd = Value.slice a6 (ncl g) c ∧ Row w'5 (25 : TypeId) (1 : Nat) a6 (ncl g) vs c) →
bcase (decide ((↑x5 : Int) < (↑x1.snd.fst : Int)))
(∃ (k : Nat),
(↑x5 : Int) = (↑k : Int) ∧
k < x1.snd.fst ∧
ptrE x1.fst fun (b o : Nat) =>
true = true ∧
(∃ (old : Value), w'5.cell? { block := b, off := o + k } = some old) ∧
w'5.frozen? { block := b, off := o + k } = false ∧
∀ (w1 : World),
Stored w'5 { block := b, off := o + k } (Value.int IntKind.i8 (77 : Int)) w1 →
InR IntKind.i64 ((↑x5 : Int) + (1 : Int)) ∧
∃ (y : Nat),
Value.int IntKind.i64 ((↑x5 : Int) + (1 : Int)) = Value.int IntKind.i64 (↑y : Int) ∧
(y ≤ ncl g ∧
Fr (fun (q : Nat) => adS (Value.slice x1.fst x1.snd.fst x1.snd.snd) = some q) w'4 w1 ∧
∃ (a8 : Option Addr),
∃ (c : Nat),
∃ (vs : List Value),
Value.slice x1.fst x1.snd.fst x1.snd.snd = Value.slice a8 (ncl g) c ∧ Row w1 (25 : TypeId) (1 : Nat) a8 (ncl g) vs c) ∧
ncl g - y < ncl g - x5)
((∃ (x6 : GWh),
Value.int IntKind.i64 (0 : Int) = Value.int IntKind.i64 (↑x6.j : Int) ∧
Value.slice x1.fst x1.snd.fst x1.snd.snd = Value.slice x6.a (ncl g + x6.j) x6.c ∧
x6.j ≤ (30 : Nat) ∧
Fr (fun (q : Nat) => adS (Value.slice x1.fst x1.snd.fst x1.snd.snd) = some q) w'5 w'5 ∧
(∃ (vs : List Value), Row w'5 (25 : TypeId) (1 : Nat) x6.a (ncl g + x6.j) vs x6.c) ∧
∀ (q : Nat), blk x6.a = some q → adS (Value.slice x1.fst x1.snd.fst x1.snd.snd) = some q ∨ w'5.heap.size ≤ q) ∧
∀ (u1 : Nat → Value) (x6 : GWh) (w'6 : World),
(x6.j ≤ (30 : Nat) ∧
Fr (fun (q : Nat) => adS (Value.slice x1.fst x1.snd.fst x1.snd.snd) = some q) w'5 w'6 ∧
(∃ (vs : List Value), Row w'6 (25 : TypeId) (1 : Nat) x6.a (ncl g + x6.j) vs x6.c) ∧
∀ (q : Nat), blk x6.a = some q → adS (Value.slice x1.fst x1.snd.fst x1.snd.snd) = some q ∨ w'5.heap.size ≤ q) →
bcase (decide ((↑x6.j : Int) < (30 : Int)))
(∀ (b : Nat) (w1 : World),
New w'6 (Obj.cells #[Value.int IntKind.i8 (78 : Int)] (25 : Nat)) b w1 →
∃ (a' : Option Addr),
∃ (c' : Nat),
∃ (w'7 : World),
AppRun Tryd.prog #[(22 : Nat), (22 : Nat)] (22 : Nat) (Value.slice x6.a (ncl g + x6.j) x6.c)
(Value.slice (some { block := b, off := (0 : Nat) }) (1 : Nat) (1 : Nat)) w1 a' (ncl g + x6.j + (1 : Nat)) c' w'7 ∧
KO w1 w'7 ∧
InR IntKind.i64 ((↑x6.j : Int) + (1 : Int)) ∧
∃ (y : GWh),
Value.int IntKind.i64 ((↑x6.j : Int) + (1 : Int)) = Value.int IntKind.i64 (↑y.j : Int) ∧
Value.slice a' (ncl g + x6.j + (1 : Nat)) c' = Value.slice y.a (ncl g + y.j) y.c ∧
(y.j ≤ (30 : Nat) ∧
Fr (fun (q : Nat) => adS (Value.slice x1.fst x1.snd.fst x1.snd.snd) = some q) w'5 w'7 ∧
(∃ (vs : List Value), Row w'7 (25 : TypeId) (1 : Nat) y.a (ncl g + y.j) vs y.c) ∧
∀ (q : Nat), blk y.a = some q → adS (Value.slice x1.fst x1.snd.fst x1.snd.snd) = some q ∨ w'5.heap.size ≤ q) ∧
(30 : Nat) - y.j < (30 : Nat) - x6.j)
(∃ (g6 : GTwo),
#[Value.slice x2.fst x2.snd.fst x2.snd.snd, Value.slice x.fst x.snd.fst x.snd.snd] =
#[Value.slice g6.a.ad g6.a.xs.length g6.a.c, Value.slice g6.b.ad g6.b.xs.length g6.b.c] ∧
(GSl.at IntKind.i8 g6.a w'6 ∧ GSl.at IntKind.i8 g6.b w'6) ∧
∀ (x7 : Bool) (w'7 : World),
x7 = decide (g6.a.xs = g6.b.xs) ∧ Ext w'6 w'7 →
bcase x7
(InR IntKind.i64 ((↑x.snd.fst : Int) + (30 : Int)) ∧
bcase ((↑(ncl g + x6.j) : Int) == (↑x.snd.fst : Int) + (30 : Int))
(∃ (g7 : Unit),
(#[] : Array Value) = #[] ∧
U8 w'7 ∧ ∀ (x8 : Unit) (w'8 : World), Ext w'7 w'8 → ∃ (x9 : Unit), Value.bool true = Value.bool true ∧ Ext w w'8)
(∃ (x8 : Unit), Value.bool false = Value.bool true ∧ Ext w w'7))
(∃ (x8 : Unit), Value.bool false = Value.bool true ∧ Ext w w'7)))))) :
    (sLawS).Ok Tryd.prog 3 :=
  ok_of_vc sLawS annLawWh spLawWh (fun _ _ => rfl) (fun _ _ => rfl) hsp Tryd.func3 rfl (n := 1) (fun _ => rfl) (by kernel_rfl) (vcast (by kernel_rfl) h)

set_option maxRecDepth 1000000 in
theorem lawLn_vc (hsp : SpecsOk Tryd.prog spLawLn) (h : ∀ (g : ByteArray × Int) (w : World),
U8 w ∧ g.fst.size ≤ (1048576 : Nat) ∧ (-9223372036854775808 : Int) ≤ g.snd ∧ g.snd ≤ (9223372036854775807 : Int) →
∀ (b : Nat) (w1 : World),
New w (Obj.cells #[Value.bool false] (4 : Nat)) b w1 →
∃ (g1 : ByteArray),
#[Value.string g.fst] = #[Value.string g1] ∧
(U8 w1 ∧ g1.size ≤ (1048576 : Nat)) ∧
∀ (x : Option Addr × Nat × Nat) (w' : World),
x.snd.fst = (lnL g1).length ∧
Made w1 w' (35 : TypeId) (2 : Nat) x.fst x.snd.fst (List.flatMap encPc (lnL g1)) x.snd.snd →
∀ (b1 : Nat) (w11 : World),
New w' (Obj.cells #[Value.slice none (0 : Nat) (0 : Nat)] (28 : Nat)) b1 w11 →
true = true ∧
(∃ (old : Value), w11.cell? { block := b1, off := (0 : Nat) } = some old) ∧
w11.frozen? { block := b1, off := (0 : Nat) } = false ∧
∀ (w12 : World),
Stored w11 { block := b1, off := (0 : Nat) } (Value.slice x.fst x.snd.fst x.snd.snd) w12 →
∃ (a5 : Option Addr),
∃ (n : Nat),
∃ (c : Nat),
w12.cell? { block := b1, off := (0 : Nat) } = some (Value.slice a5 n c) ∧
∀ (b2 : Nat) (w13 : World),
New w12 (Obj.cells #[Value.int IntKind.i64 (0 : Int)] (3 : Nat)) b2 w13 →
true = true ∧
(∃ (old : Value), w13.cell? { block := b2, off := (0 : Nat) } = some old) ∧
w13.frozen? { block := b2, off := (0 : Nat) } = false ∧
∀ (w14 : World),
Stored w13 { block := b2, off := (0 : Nat) }
(Value.int IntKind.i64
(if (↑n : Int) < if (0 : Int) > g.snd then (0 : Int) else g.snd then (↑n : Int)
else if (0 : Int) > g.snd then (0 : Int) else g.snd))
w14 →
∃ (g2 : ByteArray),
#[Value.string g.fst] = #[Value.string g2] ∧
True ∧
∀ (x1 : Nat) (w'1 : World),
w14.heap.size ≤ x1 ∧ w'1.heap[x1]? = some (Obj.cells #[Value.string g2] (9 : TypeId)) ∧ Ext w14 w'1 →
∀ (b3 : Nat) (w15 : World),
New w'1 (Obj.cells #[Value.nilFunc] (31 : Nat)) b3 w15 →
true = true ∧
(∃ (old : Value), w15.cell? { block := b3, off := (0 : Nat) } = some old) ∧
w15.frozen? { block := b3, off := (0 : Nat) } = false ∧
∀ (w16 : World),
Stored w15 { block := b3, off := (0 : Nat) }
(Value.func (Fn.func (62 : Nat)) #[] #[Value.pointer (some { block := x1, off := (0 : Nat) })]) w16 →
∃ (gf : FuncId),
∃ (caps : Array Value),
w16.cell? { block := b3, off := (0 : Nat) } = some (Value.func (Fn.func gf) #[] caps) ∧
∃ (a11 : Option Addr),
∃ (n1 : Nat),
∃ (c1 : Nat),
w16.cell? { block := b1, off := (0 : Nat) } = some (Value.slice a11 n1 c1) ∧
∃ (n2 : Int),
w16.cell? { block := b2, off := (0 : Nat) } = some (Value.int IntKind.i64 n2) ∧
∃ (g3 : GGo),
#[Value.func (Fn.func gf) #[] caps, Value.slice a11 n1 c1, Value.int IntKind.i64 n2] =
#[Value.func (Fn.func g3.it.f) #[] g3.it.caps, Value.slice g3.a g3.want.length g3.c, Value.int IntKind.i64 g3.most] ∧
(g3.it.ok w16 ∧ CellsAt w16 g3.a (List.flatMap encPc g3.want) ∧ g3.it.xs = g3.want) ∧
∀ (x2 : Unit) (w'2 : World),
Ext w16 w'2 →
∃ (gf1 : FuncId),
∃ (caps1 : Array Value),
w'2.cell? { block := b3, off := (0 : Nat) } = some (Value.func (Fn.func gf1) #[] caps1) ∧
∃ (a13 : Option Addr),
∃ (n3 : Nat),
∃ (c2 : Nat),
w'2.cell? { block := b1, off := (0 : Nat) } = some (Value.slice a13 n3 c2) ∧
∃ (g4 : GGo),
#[Value.func (Fn.func gf1) #[] caps1, Value.slice a13 n3 c2, Value.int IntKind.i64 (-1 : Int)] =
#[Value.func (Fn.func g4.it.f) #[] g4.it.caps, Value.slice g4.a g4.want.length g4.c, Value.int IntKind.i64 g4.most] ∧
(g4.it.ok w'2 ∧ CellsAt w'2 g4.a (List.flatMap encPc g4.want) ∧ g4.it.xs = g4.want) ∧
∀ (x3 : Unit) (w'3 : World),
Ext w'2 w'3 →
∀ (b4 : Nat) (w17 : World),
New w'3 (Obj.cells #[Value.int IntKind.i64 (0 : Int)] (3 : Nat)) b4 w17 →
true = true ∧
(∃ (old : Value), w17.cell? { block := b4, off := (0 : Nat) } = some old) ∧
w17.frozen? { block := b4, off := (0 : Nat) } = false ∧
∀ (w18 : World),
Stored w17 { block := b4, off := (0 : Nat) } (Value.int IntKind.i64 (0 : Int)) w18 →
∃ (gf2 : FuncId),
∃ (caps2 : Array Value),
w18.cell? { block := b3, off := (0 : Nat) } = some (Value.func (Fn.func gf2) #[] caps2) ∧
∃ (xs : List (Nat × ByteArray)),
∃ (C : Nat → Prop),
∃ (D0 : Nat → Prop),
IterAt Tryd.prog (Value.func (Fn.func gf2) #[] caps2) (List.map encPc xs) C w18 ∧
DomOk w18 C D0 ∧
(D0 =
ones
[ptrB (Value.pointer (some { block := b, off := (0 : Nat) })),
ptrB (Value.pointer (some { block := b4, off := (0 : Nat) }))] ∧
w18.heap[ptrB (Value.pointer (some { block := b4, off := (0 : Nat) }))]? =
some (Obj.cells #[Value.int IntKind.i64 (0 : Int)] (3 : TypeId)) ∧
∃ (v : Bool),
w18.heap[ptrB (Value.pointer (some { block := b, off := (0 : Nat) }))]? =
some (Obj.cells #[Value.bool v] (4 : TypeId))) ∧
(Stab w18.heap.size fun (k : Nat) (D : Nat → Prop) (W : World) =>
D =
ones
[ptrB (Value.pointer (some { block := b, off := (0 : Nat) })),
ptrB (Value.pointer (some { block := b4, off := (0 : Nat) }))] ∧
W.heap[ptrB (Value.pointer (some { block := b4, off := (0 : Nat) }))]? =
some (Obj.cells #[Value.int IntKind.i64 (↑k : Int)] (3 : TypeId)) ∧
∃ (v : Bool),
W.heap[ptrB (Value.pointer (some { block := b, off := (0 : Nat) }))]? = some (Obj.cells #[Value.bool v] (4 : TypeId))) ∧
(∀ (x4 : Exit), Stab w18.heap.size fun (x : Nat) (D : Nat → Prop) (W : World) => (1 : Nat) = (0 : Nat)) ∧
(∀ (k : Nat) (x4 : Nat × ByteArray) (D : Nat → Prop) (W : World),
xs[k]? = some x4 →
(D =
ones
[ptrB (Value.pointer (some { block := b, off := (0 : Nat) })),
ptrB (Value.pointer (some { block := b4, off := (0 : Nat) }))] ∧
W.heap[ptrB (Value.pointer (some { block := b4, off := (0 : Nat) }))]? =
some (Obj.cells #[Value.int IntKind.i64 (↑k : Int)] (3 : TypeId)) ∧
∃ (v : Bool),
W.heap[ptrB (Value.pointer (some { block := b, off := (0 : Nat) }))]? = some (Obj.cells #[Value.bool v] (4 : TypeId))) →
Mid w18 D0 D W →
∃ (n4 : Int),
W.cell? { block := b4, off := (0 : Nat) } = some (Value.int IntKind.i64 n4) ∧
∃ (n5 : Int),
W.cell? { block := b2, off := (0 : Nat) } = some (Value.int IntKind.i64 n5) ∧
bcase (n4 == n5)
(∃ (gf3 : FuncId),
∃ (caps3 : Array Value),
W.cell? { block := b3, off := (0 : Nat) } = some (Value.func (Fn.func gf3) #[] caps3) ∧
∃ (a20 : Option Addr),
∃ (n6 : Nat),
∃ (c3 : Nat),
W.cell? { block := b1, off := (0 : Nat) } = some (Value.slice a20 n6 c3) ∧
∃ (g5 : GGo),
#[Value.func (Fn.func gf3) #[] caps3, Value.slice a20 n6 c3, Value.int IntKind.i64 (-1 : Int)] =
#[Value.func (Fn.func g5.it.f) #[] g5.it.caps, Value.slice g5.a g5.want.length g5.c, Value.int IntKind.i64 g5.most] ∧
(g5.it.ok W ∧ CellsAt W g5.a (List.flatMap encPc g5.want) ∧ g5.it.xs = g5.want) ∧
∀ (x5 : Unit) (w'4 : World),
Ext W w'4 →
∃ (n7 : Int),
w'4.cell? { block := b4, off := (0 : Nat) } = some (Value.int IntKind.i64 n7) ∧
∃ (a22 : Option Addr),
∃ (n8 : Nat),
∃ (c4 : Nat),
w'4.cell? { block := b1, off := (0 : Nat) } = some (Value.slice a22 n8 c4) ∧
bcase (decide (n7 ≥ (↑n8 : Int)))
(true = true ∧
(∃ (old : Value), w'4.cell? { block := b, off := (0 : Nat) } = some old) ∧
w'4.frozen? { block := b, off := (0 : Nat) } = false ∧
∀ (w19 : World), Stored w'4 { block := b, off := (0 : Nat) } (Value.bool false) w19 → False)
(∃ (a23 : Option Addr),
∃ (n9 : Nat),
∃ (c5 : Nat),
w'4.cell? { block := b1, off := (0 : Nat) } = some (Value.slice a23 n9 c5) ∧
∃ (n10 : Int),
w'4.cell? { block := b4, off := (0 : Nat) } = some (Value.int IntKind.i64 n10) ∧
∃ (k1 : Nat),
n10 = (↑k1 : Int) ∧
k1 < n9 ∧
ptrE a23 fun (b5 o : Nat) =>
∃ (n11 : Int),
w'4.cell? { block := b5, off := o + k1 * (2 : Nat) } = some (Value.int IntKind.i64 n11) ∧
bcase (n11 != (↑x4.fst : Int))
(true = true ∧
(∃ (old : Value), w'4.cell? { block := b, off := (0 : Nat) } = some old) ∧
w'4.frozen? { block := b, off := (0 : Nat) } = false ∧
∀ (w19 : World), Stored w'4 { block := b, off := (0 : Nat) } (Value.bool false) w19 → False)
(∃ (a24 : Option Addr),
∃ (n12 : Nat),
∃ (c6 : Nat),
w'4.cell? { block := b1, off := (0 : Nat) } = some (Value.slice a24 n12 c6) ∧
∃ (n13 : Int),
w'4.cell? { block := b4, off := (0 : Nat) } = some (Value.int IntKind.i64 n13) ∧
∃ (k2 : Nat),
n13 = (↑k2 : Int) ∧
k2 < n12 ∧
ptrE a24 fun (b6 o1 : Nat) =>
∃ (s : ByteArray),
w'4.cell? { block := b6, off := o1 + k2 * (2 : Nat) + (1 : Nat) } = some (Value.string s) ∧
bcase (!s.toList == x4.snd.toList)
(true = true ∧
(∃ (old : Value), w'4.cell? { block := b, off := (0 : Nat) } = some old) ∧
w'4.frozen? { block := b, off := (0 : Nat) } = false ∧
∀ (w19 : World), Stored w'4 { block := b, off := (0 : Nat) } (Value.bool false) w19 → False)
(∃ (n14 : Int),
w'4.cell? { block := b4, off := (0 : Nat) } = some (Value.int IntKind.i64 n14) ∧
InR IntKind.i64 (n14 + (1 : Int)) ∧
true = true ∧
(∃ (old : Value), w'4.cell? { block := b4, off := (0 : Nat) } = some old) ∧
w'4.frozen? { block := b4, off := (0 : Nat) } = false ∧
∀ (w19 : World),
Stored w'4 { block := b4, off := (0 : Nat) } (Value.int IntKind.i64 (n14 + (1 : Int))) w19 →
∃ (D' : Nat → Prop),
Step D W w19 D' ∧
D' =
ones
[ptrB (Value.pointer (some { block := b, off := (0 : Nat) })),
ptrB (Value.pointer (some { block := b4, off := (0 : Nat) }))] ∧
w19.heap[ptrB (Value.pointer (some { block := b4, off := (0 : Nat) }))]? =
some (Obj.cells #[Value.int IntKind.i64 (↑(k + (1 : Nat)) : Int)] (3 : TypeId)) ∧
∃ (v : Bool),
w19.heap[ptrB (Value.pointer (some { block := b, off := (0 : Nat) }))]? =
some (Obj.cells #[Value.bool v] (4 : TypeId))))))
(∃ (n6 : Int),
W.cell? { block := b4, off := (0 : Nat) } = some (Value.int IntKind.i64 n6) ∧
∃ (a20 : Option Addr),
∃ (n7 : Nat),
∃ (c3 : Nat),
W.cell? { block := b1, off := (0 : Nat) } = some (Value.slice a20 n7 c3) ∧
bcase (decide (n6 ≥ (↑n7 : Int)))
(true = true ∧
(∃ (old : Value), W.cell? { block := b, off := (0 : Nat) } = some old) ∧
W.frozen? { block := b, off := (0 : Nat) } = false ∧
∀ (w19 : World), Stored W { block := b, off := (0 : Nat) } (Value.bool false) w19 → False)
(∃ (a21 : Option Addr),
∃ (n8 : Nat),
∃ (c4 : Nat),
W.cell? { block := b1, off := (0 : Nat) } = some (Value.slice a21 n8 c4) ∧
∃ (n9 : Int),
W.cell? { block := b4, off := (0 : Nat) } = some (Value.int IntKind.i64 n9) ∧
∃ (k1 : Nat),
n9 = (↑k1 : Int) ∧
k1 < n8 ∧
ptrE a21 fun (b5 o : Nat) =>
∃ (n10 : Int),
W.cell? { block := b5, off := o + k1 * (2 : Nat) } = some (Value.int IntKind.i64 n10) ∧
bcase (n10 != (↑x4.fst : Int))
(true = true ∧
(∃ (old : Value), W.cell? { block := b, off := (0 : Nat) } = some old) ∧
W.frozen? { block := b, off := (0 : Nat) } = false ∧
∀ (w19 : World), Stored W { block := b, off := (0 : Nat) } (Value.bool false) w19 → False)
(∃ (a22 : Option Addr),
∃ (n11 : Nat),
∃ (c5 : Nat),
W.cell? { block := b1, off := (0 : Nat) } = some (Value.slice a22 n11 c5) ∧
∃ (n12 : Int),
W.cell? { block := b4, off := (0 : Nat) } = some (Value.int IntKind.i64 n12) ∧
∃ (k2 : Nat),
n12 = (↑k2 : Int) ∧
k2 < n11 ∧
ptrE a22 fun (b6 o1 : Nat) =>
∃ (s : ByteArray),
W.cell? { block := b6, off := o1 + k2 * (2 : Nat) + (1 : Nat) } = some (Value.string s) ∧
bcase (!s.toList == x4.snd.toList)
(true = true ∧
(∃ (old : Value), W.cell? { block := b, off := (0 : Nat) } = some old) ∧
W.frozen? { block := b, off := (0 : Nat) } = false ∧
∀ (w19 : World), Stored W { block := b, off := (0 : Nat) } (Value.bool false) w19 → False)
(∃ (n13 : Int),
W.cell? { block := b4, off := (0 : Nat) } = some (Value.int IntKind.i64 n13) ∧
InR IntKind.i64 (n13 + (1 : Int)) ∧
true = true ∧
(∃ (old : Value), W.cell? { block := b4, off := (0 : Nat) } = some old) ∧
W.frozen? { block := b4, off := (0 : Nat) } = false ∧
∀ (w19 : World),
Stored W { block := b4, off := (0 : Nat) } (Value.int IntKind.i64 (n13 + (1 : Int))) w19 →
∃ (D' : Nat → Prop),
Step D W w19 D' ∧
D' =
ones
[ptrB (Value.pointer (some { block := b, off := (0 : Nat) })),
ptrB (Value.pointer (some { block := b4, off := (0 : Nat) }))] ∧
w19.heap[ptrB (Value.pointer (some { block := b4, off := (0 : Nat) }))]? =
some (Obj.cells #[Value.int IntKind.i64 (↑(k + (1 : Nat)) : Int)] (3 : TypeId)) ∧
∃ (v : Bool),
w19.heap[ptrB (Value.pointer (some { block := b, off := (0 : Nat) }))]? =
some (Obj.cells #[Value.bool v] (4 : TypeId))))))) ∧
(∀ (D : Nat → Prop) (W : World),
(D =
ones
[ptrB (Value.pointer (some { block := b, off := (0 : Nat) })),
ptrB (Value.pointer (some { block := b4, off := (0 : Nat) }))] ∧
W.heap[ptrB (Value.pointer (some { block := b4, off := (0 : Nat) }))]? =
some (Obj.cells #[Value.int IntKind.i64 (↑(lenX xs) : Int)] (3 : TypeId)) ∧
∃ (v : Bool),
W.heap[ptrB (Value.pointer (some { block := b, off := (0 : Nat) }))]? = some (Obj.cells #[Value.bool v] (4 : TypeId))) →
Mid w18 D0 D W →
∃ (n4 : Int),
W.cell? { block := b4, off := (0 : Nat) } = some (Value.int IntKind.i64 n4) ∧
∃ (a19 : Option Addr),
∃ (n5 : Nat),
∃ (c3 : Nat),
W.cell? { block := b1, off := (0 : Nat) } = some (Value.slice a19 n5 c3) ∧
bcase (n4 == (↑n5 : Int))
(∃ (g5 : Unit),
(#[] : Array Value) = #[] ∧
U8 W ∧
∀ (x4 : Unit) (w'4 : World),
Ext W w'4 →
true = true ∧
(∃ (old : Value), w'4.cell? { block := b, off := (0 : Nat) } = some old) ∧
w'4.frozen? { block := b, off := (0 : Nat) } = false ∧
∀ (w19 : World),
Stored w'4 { block := b, off := (0 : Nat) } (Value.bool true) w19 →
∃ (b5 : Bool),
w19.cell? { block := b, off := (0 : Nat) } = some (Value.bool b5) ∧
∀ (w2 : World), Turn w.heap.size w19 w2 → ∃ (x5 : Unit), Value.bool b5 = Value.bool true ∧ Ext w w2)
(true = true ∧
(∃ (old : Value), W.cell? { block := b, off := (0 : Nat) } = some old) ∧
W.frozen? { block := b, off := (0 : Nat) } = false ∧
∀ (w19 : World),
Stored W { block := b, off := (0 : Nat) } (Value.bool false) w19 →
∃ (b5 : Bool),
w19.cell? { block := b, off := (0 : Nat) } = some (Value.bool b5) ∧
∀ (w2 : World), Turn w.heap.size w19 w2 → ∃ (x4 : Unit), Value.bool b5 = Value.bool true ∧ Ext w w2)) ∧
True) :
    (sLawSI).Ok Tryd.prog 4 :=
  ok_of_vc sLawSI annLawLn spLawLn (fun _ _ => rfl) (fun _ _ => rfl) hsp Tryd.func4 rfl (n := 2) (fun _ => rfl) (by kernel_rfl) (vcast (by kernel_rfl) h)

end Go.Proofs.YthpjkgoahneldaaDoor
end

section
/-
  Verification conditions, printed by a program out of the specifications beside this text: each theorem says that the condition suffices. (Lean's kernel compares the printed condition with what 'wpE' computes.)
-/
set_option linter.unusedVariables false
namespace Go.Proofs.YthpjkgoahneldaaDoor
open Go Go.RowKit Vc Ut Tb Cl

set_option maxRecDepth 1000000 in
theorem rlines_vc (hsp : SpecsOk Tryd.prog spRLines) (h : ∀ (g : ByteArray) (w : World),
U8 w ∧ g.size ≤ (1048576 : Nat) →
∃ (g1 : ByteArray),
#[Value.string g] = #[Value.string g1] ∧
(U8 w ∧ g1.size ≤ (67108864 : Nat)) ∧
∀ (x : Option Addr × Nat × Nat) (w' : World),
x.snd.fst = ncl g1 ∧
Made w w' (44 : TypeId) (2 : Nat) x.fst x.snd.fst (List.flatMap (pcV g1) (List.range (ncl g1))) x.snd.snd →
∃ (g2 : ByteArray),
#[Value.string g] = #[Value.string g2] ∧
(U8 w' ∧ g2.size ≤ (67108864 : Nat)) ∧
∀ (x1 : Option Addr × Nat × Nat) (w'1 : World),
x1.snd.fst = (whereL g2).length ∧
Made w' w'1 (25 : TypeId) (1 : Nat) x1.fst x1.snd.fst (List.map (Value.int IntKind.i8) (whereL g2)) x1.snd.snd →
(∃ (x2 : Nat × Option Addr × Nat),
Value.int IntKind.i64 (0 : Int) = Value.int IntKind.i64 (↑x2.fst : Int) ∧
Value.int IntKind.i64 (0 : Int) = Value.int IntKind.i64 (↑(lnS g x2.fst).fst : Int) ∧
Value.slice none (0 : Nat) (0 : Nat) = Value.slice x2.snd.fst (lnS g x2.fst).snd.length x2.snd.snd ∧
x2.fst ≤ ncl g ∧
Made w'1 w'1 (35 : TypeId) (2 : Nat) x2.snd.fst (lnS g x2.fst).snd.length
(List.flatMap (fun (p : Nat × Nat) => encPc (lnP g p)) (lnS g x2.fst).snd) x2.snd.snd) ∧
∀ (u : Nat → Value) (x2 : Nat × Option Addr × Nat) (w'2 : World),
x2.fst ≤ ncl g ∧
Made w'1 w'2 (35 : TypeId) (2 : Nat) x2.snd.fst (lnS g x2.fst).snd.length
(List.flatMap (fun (p : Nat × Nat) => encPc (lnP g p)) (lnS g x2.fst).snd) x2.snd.snd →
bcase (decide ((↑x2.fst : Int) < (↑x.snd.fst : Int)))
(∀ (w1 : World),
Drew w'2 w1 →
∃ (k : Nat),
(↑x2.fst : Int) = (↑k : Int) ∧
k < x.snd.fst ∧
ptrE x.fst fun (b o : Nat) =>
∃ (n : Int),
w'2.cell? { block := b, off := o + k * (2 : Nat) } = some (Value.int IntKind.i64 n) ∧
∃ (k1 : Nat),
(↑x2.fst : Int) = (↑k1 : Int) ∧
k1 < x.snd.fst ∧
ptrE x.fst fun (b1 o1 : Nat) =>
∃ (s : ByteArray),
w'2.cell? { block := b1, off := o1 + k1 * (2 : Nat) + (1 : Nat) } = some (Value.string s) ∧
InR IntKind.i64 (n + (↑s.size : Int)) ∧
InR IntKind.i64 (n + (↑s.size : Int) - (↑(lnS g x2.fst).fst : Int)) ∧
bcase (decide (n + (↑s.size : Int) - (↑(lnS g x2.fst).fst : Int) > (65536 : Int)))
(∃ (k2 : Nat),
(↑x2.fst : Int) = (↑k2 : Int) ∧
k2 < x.snd.fst ∧
ptrE x.fst fun (b2 o2 : Nat) =>
∃ (n1 : Int),
w1.cell? { block := b2, off := o2 + k2 * (2 : Nat) } = some (Value.int IntKind.i64 n1) ∧
∃ (k3 : Nat),
(↑(lnS g x2.fst).fst : Int) = (↑k3 : Int) ∧
∃ (k4 : Nat),
n1 = (↑k4 : Int) ∧
k3 ≤ k4 ∧
k4 ≤ g.size ∧
∀ (b3 : Nat) (w11 : World),
New w1 (Obj.cells #[Value.int IntKind.i64 (↑(lnS g x2.fst).fst : Int), Value.string (g.extract k3 k4)] (35 : Nat)) b3
w11 →
∃ (a' : Option Addr),
∃ (c' : Nat),
∃ (w'3 : World),
AppRun Tryd.prog #[(28 : Nat), (28 : Nat)] (28 : Nat) (Value.slice x2.snd.fst (lnS g x2.fst).snd.length x2.snd.snd)
(Value.slice (some { block := b3, off := (0 : Nat) }) (1 : Nat) (1 : Nat)) w11 a'
((lnS g x2.fst).snd.length + (1 : Nat)) c' w'3 ∧
KO w11 w'3 ∧
∃ (k5 : Nat),
(↑x2.fst : Int) = (↑k5 : Int) ∧
k5 < x.snd.fst ∧
ptrE x.fst fun (b4 o3 : Nat) =>
∃ (n2 : Int),
w'3.cell? { block := b4, off := o3 + k5 * (2 : Nat) } = some (Value.int IntKind.i64 n2) ∧
∃ (k6 : Nat),
(↑x2.fst : Int) = (↑k6 : Int) ∧
k6 < x1.snd.fst ∧
ptrE x1.fst fun (b5 o4 : Nat) =>
∃ (n3 : Int),
w'3.cell? { block := b5, off := o4 + k6 } = some (Value.int IntKind.i8 n3) ∧
bcase (n3 == (2 : Int))
(∃ (k7 : Nat),
n2 = (↑k7 : Int) ∧
∃ (k8 : Nat),
n + (↑s.size : Int) = (↑k8 : Int) ∧
k7 ≤ k8 ∧
k8 ≤ g.size ∧
∀ (b6 : Nat) (w12 : World),
New w'3 (Obj.cells #[Value.int IntKind.i64 n2, Value.string (g.extract k7 k8)] (35 : Nat)) b6 w12 →
∃ (a'1 : Option Addr),
∃ (c'1 : Nat),
∃ (w'4 : World),
AppRun Tryd.prog #[(28 : Nat), (28 : Nat)] (28 : Nat) (Value.slice a' ((lnS g x2.fst).snd.length + (1 : Nat)) c')
(Value.slice (some { block := b6, off := (0 : Nat) }) (1 : Nat) (1 : Nat)) w12 a'1
((lnS g x2.fst).snd.length + (1 : Nat) + (1 : Nat)) c'1 w'4 ∧
KO w12 w'4 ∧
InR IntKind.i64 ((↑x2.fst : Int) + (1 : Int)) ∧
∃ (y : Nat × Option Addr × Nat),
Value.int IntKind.i64 ((↑x2.fst : Int) + (1 : Int)) = Value.int IntKind.i64 (↑y.fst : Int) ∧
Value.int IntKind.i64 (n + (↑s.size : Int)) = Value.int IntKind.i64 (↑(lnS g y.fst).fst : Int) ∧
Value.slice a'1 ((lnS g x2.fst).snd.length + (1 : Nat) + (1 : Nat)) c'1 =
Value.slice y.snd.fst (lnS g y.fst).snd.length y.snd.snd ∧
(y.fst ≤ ncl g ∧
Made w'1 w'4 (35 : TypeId) (2 : Nat) y.snd.fst (lnS g y.fst).snd.length
(List.flatMap (fun (p : Nat × Nat) => encPc (lnP g p)) (lnS g y.fst).snd) y.snd.snd) ∧
ncl g - y.fst < ncl g - x2.fst)
(InR IntKind.i64 ((↑x2.fst : Int) + (1 : Int)) ∧
∃ (y : Nat × Option Addr × Nat),
Value.int IntKind.i64 ((↑x2.fst : Int) + (1 : Int)) = Value.int IntKind.i64 (↑y.fst : Int) ∧
Value.int IntKind.i64 n2 = Value.int IntKind.i64 (↑(lnS g y.fst).fst : Int) ∧
Value.slice a' ((lnS g x2.fst).snd.length + (1 : Nat)) c' = Value.slice y.snd.fst (lnS g y.fst).snd.length y.snd.snd ∧
(y.fst ≤ ncl g ∧
Made w'1 w'3 (35 : TypeId) (2 : Nat) y.snd.fst (lnS g y.fst).snd.length
(List.flatMap (fun (p : Nat × Nat) => encPc (lnP g p)) (lnS g y.fst).snd) y.snd.snd) ∧
ncl g - y.fst < ncl g - x2.fst))
(∃ (k2 : Nat),
(↑x2.fst : Int) = (↑k2 : Int) ∧
k2 < x1.snd.fst ∧
ptrE x1.fst fun (b2 o2 : Nat) =>
∃ (n1 : Int),
w1.cell? { block := b2, off := o2 + k2 } = some (Value.int IntKind.i8 n1) ∧
bcase (n1 == (2 : Int))
(∃ (k3 : Nat),
(↑(lnS g x2.fst).fst : Int) = (↑k3 : Int) ∧
∃ (k4 : Nat),
n + (↑s.size : Int) = (↑k4 : Int) ∧
k3 ≤ k4 ∧
k4 ≤ g.size ∧
∀ (b3 : Nat) (w11 : World),
New w1 (Obj.cells #[Value.int IntKind.i64 (↑(lnS g x2.fst).fst : Int), Value.string (g.extract k3 k4)] (35 : Nat)) b3
w11 →
∃ (a' : Option Addr),
∃ (c' : Nat),
∃ (w'3 : World),
AppRun Tryd.prog #[(28 : Nat), (28 : Nat)] (28 : Nat) (Value.slice x2.snd.fst (lnS g x2.fst).snd.length x2.snd.snd)
(Value.slice (some { block := b3, off := (0 : Nat) }) (1 : Nat) (1 : Nat)) w11 a'
((lnS g x2.fst).snd.length + (1 : Nat)) c' w'3 ∧
KO w11 w'3 ∧
InR IntKind.i64 ((↑x2.fst : Int) + (1 : Int)) ∧
∃ (y : Nat × Option Addr × Nat),
Value.int IntKind.i64 ((↑x2.fst : Int) + (1 : Int)) = Value.int IntKind.i64 (↑y.fst : Int) ∧
Value.int IntKind.i64 (n + (↑s.size : Int)) = Value.int IntKind.i64 (↑(lnS g y.fst).fst : Int) ∧
Value.slice a' ((lnS g x2.fst).snd.length + (1 : Nat)) c' = Value.slice y.snd.fst (lnS g y.fst).snd.length y.snd.snd ∧
(y.fst ≤ ncl g ∧
Made w'1 w'3 (35 : TypeId) (2 : Nat) y.snd.fst (lnS g y.fst).snd.length
(List.flatMap (fun (p : Nat × Nat) => encPc (lnP g p)) (lnS g y.fst).snd) y.snd.snd) ∧
ncl g - y.fst < ncl g - x2.fst)
(InR IntKind.i64 ((↑x2.fst : Int) + (1 : Int)) ∧
∃ (y : Nat × Option Addr × Nat),
Value.int IntKind.i64 ((↑x2.fst : Int) + (1 : Int)) = Value.int IntKind.i64 (↑y.fst : Int) ∧
Value.int IntKind.i64 (↑(lnS g x2.fst).fst : Int) = Value.int IntKind.i64 (↑(lnS g y.fst).fst : Int) ∧
Value.slice x2.snd.fst (lnS g x2.fst).snd.length x2.snd.snd = Value.slice y.snd.fst (lnS g y.fst).snd.length y.snd.snd ∧
(y.fst ≤ ncl g ∧
Made w'1 w1 (35 : TypeId) (2 : Nat) y.snd.fst (lnS g y.fst).snd.length
(List.flatMap (fun (p : Nat × Nat) => encPc (lnP g p)) (lnS g y.fst).snd) y.snd.snd) ∧
ncl g - y.fst < ncl g - x2.fst)))
(∃ (k : Nat),
(↑(lnS g x2.fst).fst : Int) = (↑k : Int) ∧
k ≤ g.size ∧
g.size ≤ g.size ∧
∀ (b : Nat) (w1 : World),
New w'2 (Obj.cells #[Value.int IntKind.i64 (↑(lnS g x2.fst).fst : Int), Value.string (g.extract k g.size)] (35 : Nat)) b
w1 →
∃ (a' : Option Addr),
∃ (c' : Nat),
∃ (w'3 : World),
AppRun Tryd.prog #[(28 : Nat), (28 : Nat)] (28 : Nat) (Value.slice x2.snd.fst (lnS g x2.fst).snd.length x2.snd.snd)
(Value.slice (some { block := b, off := (0 : Nat) }) (1 : Nat) (1 : Nat)) w1 a' ((lnS g x2.fst).snd.length + (1 : Nat))
c' w'3 ∧
KO w1 w'3 ∧
∃ (x3 : Option Addr × Nat × Nat),
Value.slice a' ((lnS g x2.fst).snd.length + (1 : Nat)) c' = Value.slice x3.fst x3.snd.fst x3.snd.snd ∧
x3.snd.fst = (lnL g).length ∧
Made w w'3 (35 : TypeId) (2 : Nat) x3.fst x3.snd.fst (List.flatMap encPc (lnL g)) x3.snd.snd)) :
    (sPartL).Ok Tryd.prog 23 :=
  ok_of_vc sPartL annRLines spRLines (fun _ _ => rfl) (fun _ _ => rfl) hsp Tryd.func23 rfl (n := 1) (fun _ => rfl) (by kernel_rfl) (vcast (by kernel_rfl) h)

set_option maxRecDepth 1000000 in
theorem itLn_vc (hsp : SpecsOk Tryd.prog spItLn) (h : ∀ (g : ByteArray × Nat) (i : ItG) (W : World),
W.heap[g.snd]? = some (Obj.cells #[Value.string g.fst] (9 : TypeId)) ∧ U8 W ∧ g.fst.size ≤ (1048576 : Nat) →
ItPre (List.map encPc (lnL g.fst)) (fun (q : Nat) => q = g.snd ∨ q = (0 : Nat) ∨ q = (1 : Nat)) i W →
∀ (b : Nat) (w1 : World),
New W (Obj.cells #[Value.func (Fn.yield i.l) #[] #[]] (75 : Nat)) b w1 →
∀ (b1 : Nat) (w11 : World),
New w1 (Obj.cells #[Value.int IntKind.i64 (0 : Int)] (3 : Nat)) b1 w11 →
true = true ∧
(∃ (old : Value), w11.cell? { block := b1, off := (0 : Nat) } = some old) ∧
w11.frozen? { block := b1, off := (0 : Nat) } = false ∧
∀ (w12 : World),
Stored w11 { block := b1, off := (0 : Nat) } (Value.int IntKind.i64 (0 : Int)) w12 →
∃ (s : ByteArray),
w12.cell? { block := g.snd, off := (0 : Nat) } = some (Value.string s) ∧
∃ (g1 : ByteArray),
#[Value.string s] = #[Value.string g1] ∧
True ∧
∀ (x : Nat) (w' : World),
w12.heap.size ≤ x ∧ w'.heap[x]? = some (Obj.cells #[Value.string g1] (9 : TypeId)) ∧ Ext w12 w' →
∃ (xs : List (Nat × ByteArray)),
∃ (C : Nat → Prop),
∃ (D0 : Nat → Prop),
IterAt Tryd.prog (Value.func (Fn.func (101 : Nat)) #[] #[Value.pointer (some { block := x, off := (0 : Nat) })])
(List.map encPc xs) C w' ∧
DomOk w' C D0 ∧
(∃ (Do : Nat → Prop),
(D0 = fun (q : Nat) => q = ptrB (Value.pointer (some { block := b1, off := (0 : Nat) })) ∨ Do q) ∧
¬Do (ptrB (Value.pointer (some { block := b1, off := (0 : Nat) }))) ∧
i.J (lnC g.fst (0 : Nat)) Do w' ∧
w'.heap[ptrB (Value.pointer (some { block := b1, off := (0 : Nat) }))]? =
some (Obj.cells #[Value.int IntKind.i64 (↑(lnF g.fst (0 : Nat)) : Int)] (3 : TypeId))) ∧
(Stab w'.heap.size fun (k : Nat) (D : Nat → Prop) (W1 : World) =>
∃ (Do : Nat → Prop),
(D = fun (q : Nat) => q = ptrB (Value.pointer (some { block := b1, off := (0 : Nat) })) ∨ Do q) ∧
¬Do (ptrB (Value.pointer (some { block := b1, off := (0 : Nat) }))) ∧
i.J (lnC g.fst k) Do W1 ∧
W1.heap[ptrB (Value.pointer (some { block := b1, off := (0 : Nat) }))]? =
some (Obj.cells #[Value.int IntKind.i64 (↑(lnF g.fst k) : Int)] (3 : TypeId))) ∧
(∀ (x1 : Exit),
Stab w'.heap.size fun (x : Nat) (D : Nat → Prop) (W1 : World) =>
∃ (Do : Nat → Prop),
(D = fun (q : Nat) => q = ptrB (Value.pointer (some { block := b1, off := (0 : Nat) })) ∨ Do q) ∧
¬Do (ptrB (Value.pointer (some { block := b1, off := (0 : Nat) }))) ∧ i.Jx Do W1) ∧
(∀ (k : Nat) (x1 : Nat × ByteArray) (D : Nat → Prop) (W1 : World),
xs[k]? = some x1 →
(∃ (Do : Nat → Prop),
(D = fun (q : Nat) => q = ptrB (Value.pointer (some { block := b1, off := (0 : Nat) })) ∨ Do q) ∧
¬Do (ptrB (Value.pointer (some { block := b1, off := (0 : Nat) }))) ∧
i.J (lnC g.fst k) Do W1 ∧
W1.heap[ptrB (Value.pointer (some { block := b1, off := (0 : Nat) }))]? =
some (Obj.cells #[Value.int IntKind.i64 (↑(lnF g.fst k) : Int)] (3 : TypeId))) →
Mid w' D0 D W1 →
InR IntKind.i64 ((↑x1.fst : Int) + (↑x1.snd.size : Int)) ∧
∃ (n : Int),
W1.cell? { block := b1, off := (0 : Nat) } = some (Value.int IntKind.i64 n) ∧
InR IntKind.i64 ((↑x1.fst : Int) + (↑x1.snd.size : Int) - n) ∧
bcase (decide ((↑x1.fst : Int) + (↑x1.snd.size : Int) - n > (65536 : Int)))
(∀ (w13 : World),
Drew W1 w13 →
∃ (l : Nat),
W1.cell? { block := b, off := (0 : Nat) } = some (Value.func (Fn.yield l) #[] #[]) ∧
∃ (n1 : Int),
W1.cell? { block := b1, off := (0 : Nat) } = some (Value.int IntKind.i64 n1) ∧
∃ (s1 : ByteArray),
W1.cell? { block := g.snd, off := (0 : Nat) } = some (Value.string s1) ∧
∃ (n2 : Int),
W1.cell? { block := b1, off := (0 : Nat) } = some (Value.int IntKind.i64 n2) ∧
∃ (k1 : Nat),
n2 = (↑k1 : Int) ∧
∃ (k2 : Nat),
(↑x1.fst : Int) = (↑k2 : Int) ∧
k1 ≤ k2 ∧
k2 ≤ s1.size ∧
l = i.l ∧
∃ (q : Nat × (Nat → Prop)),
[Value.int IntKind.i64 n1, Value.string (s1.extract k1 k2)] = (List.map encPc (lnL g.fst)).getD q.fst [] ∧
(q.fst < (List.map encPc (lnL g.fst)).length ∧ i.J q.fst q.snd w13 ∧ Mid W i.D0 q.snd w13) ∧
∀ (b2 : Bool) (w'1 : World),
(∃ (D' : Nat → Prop),
Step q.snd w13 w'1 D' ∧ (b2 = true → i.J (q.fst + (1 : Nat)) D' w'1) ∧ (b2 = false → i.Jx D' w'1)) →
bcase (!b2)
(∃ (D' : Nat → Prop),
Step D W1 w'1 D' ∧
∃ (Do : Nat → Prop),
(D' = fun (q : Nat) => q = ptrB (Value.pointer (some { block := b1, off := (0 : Nat) })) ∨ Do q) ∧
¬Do (ptrB (Value.pointer (some { block := b1, off := (0 : Nat) }))) ∧ i.Jx Do w'1)
(true = true ∧
(∃ (old : Value), w'1.cell? { block := b1, off := (0 : Nat) } = some old) ∧
w'1.frozen? { block := b1, off := (0 : Nat) } = false ∧
∀ (w14 : World),
Stored w'1 { block := b1, off := (0 : Nat) } (Value.int IntKind.i64 (↑x1.fst : Int)) w14 →
∃ (g2 : ByteArray),
#[Value.string x1.snd] = #[Value.string g2] ∧
(U8 w14 ∧ g2.size ≤ (67108864 : Nat)) ∧
∀ (x2 : Int) (w'2 : World),
x2 = kindC g2 ∧ Ext w14 w'2 →
bcase (x2 == (2 : Int))
(∀ (w15 : World),
Drew w'2 w15 →
∃ (l1 : Nat),
w'2.cell? { block := b, off := (0 : Nat) } = some (Value.func (Fn.yield l1) #[] #[]) ∧
∃ (n3 : Int),
w'2.cell? { block := b1, off := (0 : Nat) } = some (Value.int IntKind.i64 n3) ∧
∃ (s2 : ByteArray),
w'2.cell? { block := g.snd, off := (0 : Nat) } = some (Value.string s2) ∧
∃ (n4 : Int),
w'2.cell? { block := b1, off := (0 : Nat) } = some (Value.int IntKind.i64 n4) ∧
∃ (k3 : Nat),
n4 = (↑k3 : Int) ∧
∃ (k4 : Nat),
(↑x1.fst : Int) + (↑x1.snd.size : Int) = (↑k4 : Int) ∧
k3 ≤ k4 ∧
k4 ≤ s2.size ∧
l1 = i.l ∧
∃ (q1 : Nat × (Nat → Prop)),
[Value.int IntKind.i64 n3, Value.string (s2.extract k3 k4)] = (List.map encPc (lnL g.fst)).getD q1.fst [] ∧
(q1.fst < (List.map encPc (lnL g.fst)).length ∧ i.J q1.fst q1.snd w15 ∧ Mid W i.D0 q1.snd w15) ∧
∀ (b3 : Bool) (w'3 : World),
(∃ (D' : Nat → Prop),
Step q1.snd w15 w'3 D' ∧ (b3 = true → i.J (q1.fst + (1 : Nat)) D' w'3) ∧ (b3 = false → i.Jx D' w'3)) →
bcase (!b3)
(∃ (D' : Nat → Prop),
Step D W1 w'3 D' ∧
∃ (Do : Nat → Prop),
(D' = fun (q : Nat) => q = ptrB (Value.pointer (some { block := b1, off := (0 : Nat) })) ∨ Do q) ∧
¬Do (ptrB (Value.pointer (some { block := b1, off := (0 : Nat) }))) ∧ i.Jx Do w'3)
(true = true ∧
(∃ (old : Value), w'3.cell? { block := b1, off := (0 : Nat) } = some old) ∧
w'3.frozen? { block := b1, off := (0 : Nat) } = false ∧
∀ (w16 : World),
Stored w'3 { block := b1, off := (0 : Nat) } (Value.int IntKind.i64 ((↑x1.fst : Int) + (↑x1.snd.size : Int))) w16 →
∃ (D' : Nat → Prop),
Step D W1 w16 D' ∧
∃ (Do : Nat → Prop),
(D' = fun (q : Nat) => q = ptrB (Value.pointer (some { block := b1, off := (0 : Nat) })) ∨ Do q) ∧
¬Do (ptrB (Value.pointer (some { block := b1, off := (0 : Nat) }))) ∧
i.J (lnC g.fst (k + (1 : Nat))) Do w16 ∧
w16.heap[ptrB (Value.pointer (some { block := b1, off := (0 : Nat) }))]? =
some (Obj.cells #[Value.int IntKind.i64 (↑(lnF g.fst (k + (1 : Nat))) : Int)] (3 : TypeId))))
(∃ (D' : Nat → Prop),
Step D W1 w'2 D' ∧
∃ (Do : Nat → Prop),
(D' = fun (q : Nat) => q = ptrB (Value.pointer (some { block := b1, off := (0 : Nat) })) ∨ Do q) ∧
¬Do (ptrB (Value.pointer (some { block := b1, off := (0 : Nat) }))) ∧
i.J (lnC g.fst (k + (1 : Nat))) Do w'2 ∧
w'2.heap[ptrB (Value.pointer (some { block := b1, off := (0 : Nat) }))]? =
some (Obj.cells #[Value.int IntKind.i64 (↑(lnF g.fst (k + (1 : Nat))) : Int)] (3 : TypeId)))))
(∃ (g2 : ByteArray),
#[Value.string x1.snd] = #[Value.string g2] ∧
(U8 W1 ∧ g2.size ≤ (67108864 : Nat)) ∧
∀ (x2 : Int) (w'1 : World),
x2 = kindC g2 ∧ Ext W1 w'1 →
bcase (x2 == (2 : Int))
(∀ (w13 : World),
Drew w'1 w13 →
∃ (l : Nat),
w'1.cell? { block := b, off := (0 : Nat) } = some (Value.func (Fn.yield l) #[] #[]) ∧
∃ (n1 : Int),
w'1.cell? { block := b1, off := (0 : Nat) } = some (Value.int IntKind.i64 n1) ∧
∃ (s1 : ByteArray),
w'1.cell? { block := g.snd, off := (0 : Nat) } = some (Value.string s1) ∧
∃ (n2 : Int),
w'1.cell? { block := b1, off := (0 : Nat) } = some (Value.int IntKind.i64 n2) ∧
∃ (k1 : Nat),
n2 = (↑k1 : Int) ∧
∃ (k2 : Nat),
(↑x1.fst : Int) + (↑x1.snd.size : Int) = (↑k2 : Int) ∧
k1 ≤ k2 ∧
k2 ≤ s1.size ∧
l = i.l ∧
∃ (q : Nat × (Nat → Prop)),
[Value.int IntKind.i64 n1, Value.string (s1.extract k1 k2)] = (List.map encPc (lnL g.fst)).getD q.fst [] ∧
(q.fst < (List.map encPc (lnL g.fst)).length ∧ i.J q.fst q.snd w13 ∧ Mid W i.D0 q.snd w13) ∧
∀ (b2 : Bool) (w'2 : World),
(∃ (D' : Nat → Prop),
Step q.snd w13 w'2 D' ∧ (b2 = true → i.J (q.fst + (1 : Nat)) D' w'2) ∧ (b2 = false → i.Jx D' w'2)) →
bcase (!b2)
(∃ (D' : Nat → Prop),
Step D W1 w'2 D' ∧
∃ (Do : Nat → Prop),
(D' = fun (q : Nat) => q = ptrB (Value.pointer (some { block := b1, off := (0 : Nat) })) ∨ Do q) ∧
¬Do (ptrB (Value.pointer (some { block := b1, off := (0 : Nat) }))) ∧ i.Jx Do w'2)
(true = true ∧
(∃ (old : Value), w'2.cell? { block := b1, off := (0 : Nat) } = some old) ∧
w'2.frozen? { block := b1, off := (0 : Nat) } = false ∧
∀ (w14 : World),
Stored w'2 { block := b1, off := (0 : Nat) } (Value.int IntKind.i64 ((↑x1.fst : Int) + (↑x1.snd.size : Int))) w14 →
∃ (D' : Nat → Prop),
Step D W1 w14 D' ∧
∃ (Do : Nat → Prop),
(D' = fun (q : Nat) => q = ptrB (Value.pointer (some { block := b1, off := (0 : Nat) })) ∨ Do q) ∧
¬Do (ptrB (Value.pointer (some { block := b1, off := (0 : Nat) }))) ∧
i.J (lnC g.fst (k + (1 : Nat))) Do w14 ∧
w14.heap[ptrB (Value.pointer (some { block := b1, off := (0 : Nat) }))]? =
some (Obj.cells #[Value.int IntKind.i64 (↑(lnF g.fst (k + (1 : Nat))) : Int)] (3 : TypeId))))
(∃ (D' : Nat → Prop),
Step D W1 w'1 D' ∧
∃ (Do : Nat → Prop),
(D' = fun (q : Nat) => q = ptrB (Value.pointer (some { block := b1, off := (0 : Nat) })) ∨ Do q) ∧
¬Do (ptrB (Value.pointer (some { block := b1, off := (0 : Nat) }))) ∧
i.J (lnC g.fst (k + (1 : Nat))) Do w'1 ∧
w'1.heap[ptrB (Value.pointer (some { block := b1, off := (0 : Nat) }))]? =
some (Obj.cells #[Value.int IntKind.i64 (↑(lnF g.fst (k + (1 : Nat))) : Int)] (3 : TypeId))))) ∧
(∀ (D : Nat → Prop) (W1 : World),
(∃ (Do : Nat → Prop),
(D = fun (q : Nat) => q = ptrB (Value.pointer (some { block := b1, off := (0 : Nat) })) ∨ Do q) ∧
¬Do (ptrB (Value.pointer (some { block := b1, off := (0 : Nat) }))) ∧
i.J (lnC g.fst (lenX xs)) Do W1 ∧
W1.heap[ptrB (Value.pointer (some { block := b1, off := (0 : Nat) }))]? =
some (Obj.cells #[Value.int IntKind.i64 (↑(lnF g.fst (lenX xs)) : Int)] (3 : TypeId))) →
Mid w' D0 D W1 →
∀ (w13 : World),
Drew W1 w13 →
∃ (l : Nat),
W1.cell? { block := b, off := (0 : Nat) } = some (Value.func (Fn.yield l) #[] #[]) ∧
∃ (n : Int),
W1.cell? { block := b1, off := (0 : Nat) } = some (Value.int IntKind.i64 n) ∧
∃ (s1 : ByteArray),
W1.cell? { block := g.snd, off := (0 : Nat) } = some (Value.string s1) ∧
∃ (n1 : Int),
W1.cell? { block := b1, off := (0 : Nat) } = some (Value.int IntKind.i64 n1) ∧
∃ (k : Nat),
n1 = (↑k : Int) ∧
k ≤ s1.size ∧
s1.size ≤ s1.size ∧
l = i.l ∧
∃ (q : Nat × (Nat → Prop)),
[Value.int IntKind.i64 n, Value.string (s1.extract k s1.size)] = (List.map encPc (lnL g.fst)).getD q.fst [] ∧
(q.fst < (List.map encPc (lnL g.fst)).length ∧ i.J q.fst q.snd w13 ∧ Mid W i.D0 q.snd w13) ∧
∀ (b2 : Bool) (w'1 : World),
(∃ (D' : Nat → Prop),
Step q.snd w13 w'1 D' ∧ (b2 = true → i.J (q.fst + (1 : Nat)) D' w'1) ∧ (b2 = false → i.Jx D' w'1)) →
∀ (w2 : World), Turn W.heap.size w'1 w2 → ItPost (List.map encPc (lnL g.fst)) i W w2) ∧
∀ (D : Nat → Prop) (W1 : World),
(∃ (Do : Nat → Prop),
(D = fun (q : Nat) => q = ptrB (Value.pointer (some { block := b1, off := (0 : Nat) })) ∨ Do q) ∧
¬Do (ptrB (Value.pointer (some { block := b1, off := (0 : Nat) }))) ∧ i.Jx Do W1) →
Mid w' D0 D W1 → ∀ (w2 : World), Turn W.heap.size W1 w2 → ItPost (List.map encPc (lnL g.fst)) i W w2) :
    (itLn).Ok Tryd.prog 62 :=
  iter_of_vc itLn annItLn spItLn (fun _ _ _ => rfl) (fun _ _ _ => rfl) hsp (enters_of Tryd.func62 (by kernel_rfl) rfl) Tryd.func62 rfl (n := 1) (fun _ => rfl) (by kernel_rfl) (vcast (by kernel_rfl) h)

set_option maxRecDepth 1000000 in
theorem lines_vc (hsp : SpecsOk Tryd.prog []) (h : ∀ (g : ByteArray) (w : World),
True →
∀ (b : Nat) (w1 : World),
New w (Obj.cells #[Value.string g] (9 : Nat)) b w1 →
∃ (x : Nat),
Value.func (Fn.func (62 : Nat)) #[] #[Value.pointer (some { block := b, off := (0 : Nat) })] =
Value.func (Fn.func (62 : Nat)) #[] #[Value.pointer (some { block := x, off := (0 : Nat) })] ∧
w.heap.size ≤ x ∧ w1.heap[x]? = some (Obj.cells #[Value.string g] (9 : TypeId)) ∧ Ext w w1) :
    ((sIter 62)).Ok Tryd.prog 24 :=
  ok_of_vc (sIter 62) (annOf []) [] (fun _ _ => rfl) (fun _ _ => rfl) hsp Tryd.func24 rfl (n := 1) (fun _ => rfl) (by kernel_rfl) (vcast (by kernel_rfl) h)

set_option maxRecDepth 1000000 in
theorem goesL_vc (hsp : SpecsOk Tryd.prog []) (h : ∀ (g : GGo) (w : World),
g.it.ok w ∧ CellsAt w g.a (List.flatMap encPc g.want) ∧ g.it.xs = g.want →
∀ (b : Nat) (w1 : World),
New w (Obj.cells #[Value.slice g.a g.want.length g.c] (28 : Nat)) b w1 →
∀ (b1 : Nat) (w11 : World),
New w1 (Obj.cells #[Value.int IntKind.i64 g.most] (3 : Nat)) b1 w11 →
∀ (b2 : Nat) (w12 : World),
New w11 (Obj.cells #[Value.bool false] (4 : Nat)) b2 w12 →
∀ (b3 : Nat) (w13 : World),
New w12 (Obj.cells #[Value.int IntKind.i64 (0 : Int)] (3 : Nat)) b3 w13 →
true = true ∧
(∃ (old : Value), w13.cell? { block := b3, off := (0 : Nat) } = some old) ∧
w13.frozen? { block := b3, off := (0 : Nat) } = false ∧
∀ (w14 : World),
Stored w13 { block := b3, off := (0 : Nat) } (Value.int IntKind.i64 (0 : Int)) w14 →
∃ (xs : List (Nat × ByteArray)),
∃ (C : Nat → Prop),
∃ (D0 : Nat → Prop),
IterAt Tryd.prog (Value.func (Fn.func g.it.f) #[] g.it.caps) (List.map encPc xs) C w14 ∧
DomOk w14 C D0 ∧
(D0 =
ones
[ptrB (Value.pointer (some { block := b2, off := (0 : Nat) })),
ptrB (Value.pointer (some { block := b3, off := (0 : Nat) }))] ∧
w14.heap[ptrB (Value.pointer (some { block := b3, off := (0 : Nat) }))]? =
some (Obj.cells #[Value.int IntKind.i64 (0 : Int)] (3 : TypeId)) ∧
∃ (v : Bool),
w14.heap[ptrB (Value.pointer (some { block := b2, off := (0 : Nat) }))]? =
some (Obj.cells #[Value.bool v] (4 : TypeId))) ∧
(Stab w14.heap.size fun (k : Nat) (D : Nat → Prop) (W : World) =>
D =
ones
[ptrB (Value.pointer (some { block := b2, off := (0 : Nat) })),
ptrB (Value.pointer (some { block := b3, off := (0 : Nat) }))] ∧
W.heap[ptrB (Value.pointer (some { block := b3, off := (0 : Nat) }))]? =
some (Obj.cells #[Value.int IntKind.i64 (↑k : Int)] (3 : TypeId)) ∧
∃ (v : Bool),
W.heap[ptrB (Value.pointer (some { block := b2, off := (0 : Nat) }))]? =
some (Obj.cells #[Value.bool v] (4 : TypeId))) ∧
(∀ (x : Exit),
Stab w14.heap.size fun (x : Nat) (D : Nat → Prop) (W : World) =>
D =
ones
[ptrB (Value.pointer (some { block := b2, off := (0 : Nat) })),
ptrB (Value.pointer (some { block := b3, off := (0 : Nat) }))] ∧
W.heap[ptrB (Value.pointer (some { block := b2, off := (0 : Nat) }))]? =
some (Obj.cells #[Value.bool true] (4 : TypeId))) ∧
(∀ (k : Nat) (x : Nat × ByteArray) (D : Nat → Prop) (W : World),
xs[k]? = some x →
(D =
ones
[ptrB (Value.pointer (some { block := b2, off := (0 : Nat) })),
ptrB (Value.pointer (some { block := b3, off := (0 : Nat) }))] ∧
W.heap[ptrB (Value.pointer (some { block := b3, off := (0 : Nat) }))]? =
some (Obj.cells #[Value.int IntKind.i64 (↑k : Int)] (3 : TypeId)) ∧
∃ (v : Bool),
W.heap[ptrB (Value.pointer (some { block := b2, off := (0 : Nat) }))]? =
some (Obj.cells #[Value.bool v] (4 : TypeId))) →
Mid w14 D0 D W →
∃ (n : Int),
W.cell? { block := b3, off := (0 : Nat) } = some (Value.int IntKind.i64 n) ∧
∃ (n1 : Int),
W.cell? { block := b1, off := (0 : Nat) } = some (Value.int IntKind.i64 n1) ∧
bcase (n == n1)
(true = true ∧
(∃ (old : Value), W.cell? { block := b2, off := (0 : Nat) } = some old) ∧
W.frozen? { block := b2, off := (0 : Nat) } = false ∧
∀ (w15 : World),
Stored W { block := b2, off := (0 : Nat) } (Value.bool true) w15 →
∃ (D' : Nat → Prop),
Step D W w15 D' ∧
D' =
ones
[ptrB (Value.pointer (some { block := b2, off := (0 : Nat) })),
ptrB (Value.pointer (some { block := b3, off := (0 : Nat) }))] ∧
w15.heap[ptrB (Value.pointer (some { block := b2, off := (0 : Nat) }))]? =
some (Obj.cells #[Value.bool true] (4 : TypeId)))
(∃ (n2 : Int),
W.cell? { block := b3, off := (0 : Nat) } = some (Value.int IntKind.i64 n2) ∧
∃ (a9 : Option Addr),
∃ (n3 : Nat),
∃ (c : Nat),
W.cell? { block := b, off := (0 : Nat) } = some (Value.slice a9 n3 c) ∧
bcase (decide (n2 ≥ (↑n3 : Int)))
(true = true ∧
(∃ (old : Value), W.cell? { block := b2, off := (0 : Nat) } = some old) ∧
W.frozen? { block := b2, off := (0 : Nat) } = false ∧
∀ (w15 : World),
Stored W { block := b2, off := (0 : Nat) } (Value.bool false) w15 →
∃ (D' : Nat → Prop),
Step D W w15 D' ∧
D' =
ones
[ptrB (Value.pointer (some { block := b2, off := (0 : Nat) })),
ptrB (Value.pointer (some { block := b3, off := (0 : Nat) }))] ∧
w15.heap[ptrB (Value.pointer (some { block := b2, off := (0 : Nat) }))]? =
some (Obj.cells #[Value.bool true] (4 : TypeId)))
(∃ (a10 : Option Addr),
∃ (n4 : Nat),
∃ (c1 : Nat),
W.cell? { block := b, off := (0 : Nat) } = some (Value.slice a10 n4 c1) ∧
∃ (n5 : Int),
W.cell? { block := b3, off := (0 : Nat) } = some (Value.int IntKind.i64 n5) ∧
∃ (k1 : Nat),
n5 = (↑k1 : Int) ∧
k1 < n4 ∧
ptrE a10 fun (b4 o : Nat) =>
∃ (n6 : Int),
W.cell? { block := b4, off := o + k1 * (2 : Nat) } = some (Value.int IntKind.i64 n6) ∧
bcase (n6 != (↑x.fst : Int))
(true = true ∧
(∃ (old : Value), W.cell? { block := b2, off := (0 : Nat) } = some old) ∧
W.frozen? { block := b2, off := (0 : Nat) } = false ∧
∀ (w15 : World),
Stored W { block := b2, off := (0 : Nat) } (Value.bool false) w15 →
∃ (D' : Nat → Prop),
Step D W w15 D' ∧
D' =
ones
[ptrB (Value.pointer (some { block := b2, off := (0 : Nat) })),
ptrB (Value.pointer (some { block := b3, off := (0 : Nat) }))] ∧
w15.heap[ptrB (Value.pointer (some { block := b2, off := (0 : Nat) }))]? =
some (Obj.cells #[Value.bool true] (4 : TypeId)))
(∃ (a11 : Option Addr),
∃ (n7 : Nat),
∃ (c2 : Nat),
W.cell? { block := b, off := (0 : Nat) } = some (Value.slice a11 n7 c2) ∧
∃ (n8 : Int),
W.cell? { block := b3, off := (0 : Nat) } = some (Value.int IntKind.i64 n8) ∧
∃ (k2 : Nat),
n8 = (↑k2 : Int) ∧
k2 < n7 ∧
ptrE a11 fun (b5 o1 : Nat) =>
∃ (s : ByteArray),
W.cell? { block := b5, off := o1 + k2 * (2 : Nat) + (1 : Nat) } = some (Value.string s) ∧
bcase (!s.toList == x.snd.toList)
(true = true ∧
(∃ (old : Value), W.cell? { block := b2, off := (0 : Nat) } = some old) ∧
W.frozen? { block := b2, off := (0 : Nat) } = false ∧
∀ (w15 : World),
Stored W { block := b2, off := (0 : Nat) } (Value.bool false) w15 →
∃ (D' : Nat → Prop),
Step D W w15 D' ∧
D' =
ones
[ptrB (Value.pointer (some { block := b2, off := (0 : Nat) })),
ptrB (Value.pointer (some { block := b3, off := (0 : Nat) }))] ∧
w15.heap[ptrB (Value.pointer (some { block := b2, off := (0 : Nat) }))]? =
some (Obj.cells #[Value.bool true] (4 : TypeId)))
(∃ (n9 : Int),
W.cell? { block := b3, off := (0 : Nat) } = some (Value.int IntKind.i64 n9) ∧
InR IntKind.i64 (n9 + (1 : Int)) ∧
true = true ∧
(∃ (old : Value), W.cell? { block := b3, off := (0 : Nat) } = some old) ∧
W.frozen? { block := b3, off := (0 : Nat) } = false ∧
∀ (w15 : World),
Stored W { block := b3, off := (0 : Nat) } (Value.int IntKind.i64 (n9 + (1 : Int))) w15 →
∃ (D' : Nat → Prop),
Step D W w15 D' ∧
D' =
ones
[ptrB (Value.pointer (some { block := b2, off := (0 : Nat) })),
ptrB (Value.pointer (some { block := b3, off := (0 : Nat) }))] ∧
w15.heap[ptrB (Value.pointer (some { block := b3, off := (0 : Nat) }))]? =
some (Obj.cells #[Value.int IntKind.i64 (↑(k + (1 : Nat)) : Int)] (3 : TypeId)) ∧
∃ (v : Bool),
w15.heap[ptrB (Value.pointer (some { block := b2, off := (0 : Nat) }))]? =
some (Obj.cells #[Value.bool v] (4 : TypeId))))))) ∧
(∀ (D : Nat → Prop) (W : World),
(D =
ones
[ptrB (Value.pointer (some { block := b2, off := (0 : Nat) })),
ptrB (Value.pointer (some { block := b3, off := (0 : Nat) }))] ∧
W.heap[ptrB (Value.pointer (some { block := b3, off := (0 : Nat) }))]? =
some (Obj.cells #[Value.int IntKind.i64 (↑(lenX xs) : Int)] (3 : TypeId)) ∧
∃ (v : Bool),
W.heap[ptrB (Value.pointer (some { block := b2, off := (0 : Nat) }))]? =
some (Obj.cells #[Value.bool v] (4 : TypeId))) →
Mid w14 D0 D W →
∃ (n : Int),
W.cell? { block := b3, off := (0 : Nat) } = some (Value.int IntKind.i64 n) ∧
∃ (a8 : Option Addr),
∃ (n1 : Nat),
∃ (c : Nat),
W.cell? { block := b, off := (0 : Nat) } = some (Value.slice a8 n1 c) ∧
true = true ∧
(∃ (old : Value), W.cell? { block := b2, off := (0 : Nat) } = some old) ∧
W.frozen? { block := b2, off := (0 : Nat) } = false ∧
∀ (w15 : World),
Stored W { block := b2, off := (0 : Nat) } (Value.bool (n == (↑n1 : Int))) w15 →
∃ (b4 : Bool),
w15.cell? { block := b2, off := (0 : Nat) } = some (Value.bool b4) ∧
∀ (w2 : World), Turn w.heap.size w15 w2 → ∃ (x : Unit), Value.bool b4 = Value.bool true ∧ Ext w w2) ∧
∀ (D : Nat → Prop) (W : World),
D =
ones
[ptrB (Value.pointer (some { block := b2, off := (0 : Nat) })),
ptrB (Value.pointer (some { block := b3, off := (0 : Nat) }))] ∧
W.heap[ptrB (Value.pointer (some { block := b2, off := (0 : Nat) }))]? =
some (Obj.cells #[Value.bool true] (4 : TypeId)) →
Mid w14 D0 D W →
∃ (b4 : Bool),
W.cell? { block := b2, off := (0 : Nat) } = some (Value.bool b4) ∧
∀ (w2 : World), Turn w.heap.size W w2 → ∃ (x : Unit), Value.bool b4 = Value.bool true ∧ Ext w w2) :
    (sGoes).Ok Tryd.prog 25 :=
  ok_of_vc sGoes annGoes [] (fun _ _ => rfl) (fun _ _ => rfl) hsp Tryd.func25 rfl (n := 3) (fun _ => rfl) (by kernel_rfl) (vcast (by kernel_rfl) h)

end Go.Proofs.YthpjkgoahneldaaDoor
end

section
/-
  Verification conditions, printed by a program out of the specifications beside this text: each theorem says that the condition suffices. (Lean's kernel compares the printed condition with what 'wpE' computes.)
-/
set_option linter.unusedVariables false
namespace Go.Proofs.YthpjkgoahneldaaDoor
open Go Go.RowKit Vc Ut Tb Cl

set_option maxRecDepth 1000000 in
theorem kindP_vc (hsp : SpecsOk Tryd.prog spKindP) (h : ∀ (g : ByteArray) (w : World),
U8 w ∧ g.size ≤ (67108864 : Nat) →
∃ (g1 : ByteArray),
#[Value.string g] = #[Value.string g1] ∧
(U8 w ∧ g1.size ≤ (67108864 : Nat)) ∧
∀ (x : Int × Nat) (w' : World),
x.fst = nxR g1 ∧ x.snd = nxN g1 ∧ Ext w w' →
∃ (g2 : Int),
#[Value.int IntKind.i32 x.fst] = #[Value.int IntKind.i32 g2] ∧
True ∧
∀ (x1 : Int) (w'1 : World),
x1 = brkR g2 ∧ Ext w' w'1 →
bcase (x1 == (8 : Int) || x.fst == (65533 : Int) && (↑x.snd : Int) == (1 : Int))
(∃ (x2 : Int), Value.int IntKind.i8 (0 : Int) = Value.int IntKind.i8 x2 ∧ x2 = kindC g ∧ Ext w w'1)
(∃ (x2 : Int), Value.int IntKind.i8 x1 = Value.int IntKind.i8 x2 ∧ x2 = kindC g ∧ Ext w w'1)) :
    (sKindC).Ok Tryd.prog 60 :=
  ok_of_vc sKindC (annOf spKindP) spKindP (fun _ _ => rfl) (fun _ _ => rfl) hsp Tryd.func60 rfl (n := 1) (fun _ => rfl) (by kernel_rfl) (vcast (by kernel_rfl) h)

set_option maxRecDepth 1000000 in
theorem kindR_vc (hsp : SpecsOk Tryd.prog spKindR) (h : ∀ (g : ByteArray) (w : World),
U8 w ∧ g.size ≤ (67108864 : Nat) →
∃ (g1 : ByteArray),
#[Value.string g] = #[Value.string g1] ∧
(U8 w ∧ g1.size ≤ (67108864 : Nat)) ∧
∀ (x : Int × Nat) (w' : World),
x.fst = nxR g1 ∧ x.snd = nxN g1 ∧ Ext w w' →
bcase ((↑x.snd : Int) == (1 : Int) && x.fst == (65533 : Int))
(∃ (x1 : Int), Value.int IntKind.i8 (0 : Int) = Value.int IntKind.i8 x1 ∧ x1 = kindC g ∧ Ext w w')
(∃ (g2 : Int),
#[Value.int IntKind.i32 x.fst] = #[Value.int IntKind.i32 g2] ∧
True ∧
∀ (x1 : Int) (w'1 : World),
x1 = brkR g2 ∧ w'1 = w' →
bcase (x1 == (8 : Int))
(∃ (x2 : Int), Value.int IntKind.i8 (0 : Int) = Value.int IntKind.i8 x2 ∧ x2 = kindC g ∧ Ext w w'1)
(∃ (x2 : Int), Value.int IntKind.i8 x1 = Value.int IntKind.i8 x2 ∧ x2 = kindC g ∧ Ext w w'1))) :
    (sKindC).Ok Tryd.prog 57 :=
  ok_of_vc sKindC (annOf spKindR) spKindR (fun _ _ => rfl) (fun _ _ => rfl) hsp Tryd.func57 rfl (n := 1) (fun _ => rfl) (by kernel_rfl) (vcast (by kernel_rfl) h)

set_option maxRecDepth 1000000 in
theorem kindL_vc (hsp : SpecsOk Tryd.prog spKindP) (h : ∀ (g : ByteArray) (w : World),
U8 w ∧ g.size ≤ (67108864 : Nat) →
∃ (g1 : ByteArray),
#[Value.string g] = #[Value.string g1] ∧
(U8 w ∧ g1.size ≤ (67108864 : Nat)) ∧
∀ (x : Int × Nat) (w' : World),
x.fst = nxR g1 ∧ x.snd = nxN g1 ∧ Ext w w' →
∃ (g2 : Int),
#[Value.int IntKind.i32 x.fst] = #[Value.int IntKind.i32 g2] ∧
True ∧
∀ (x1 : Int) (w'1 : World),
x1 = brkR g2 ∧ Ext w' w'1 →
bcase (bif (↑x.snd : Int) == (1 : Int) then x.fst == (65533 : Int) || x1 == (8 : Int) else x1 == (8 : Int))
(∃ (x2 : Int), Value.int IntKind.i8 (0 : Int) = Value.int IntKind.i8 x2 ∧ x2 = kindC g ∧ Ext w w'1)
(∃ (x2 : Int), Value.int IntKind.i8 x1 = Value.int IntKind.i8 x2 ∧ x2 = kindC g ∧ Ext w w'1)) :
    (sKindC).Ok Tryd.prog 27 :=
  ok_of_vc sKindC (annOf spKindP) spKindP (fun _ _ => rfl) (fun _ _ => rfl) hsp Tryd.func27 rfl (n := 1) (fun _ => rfl) (by kernel_rfl) (vcast (by kernel_rfl) h)

set_option maxRecDepth 1000000 in
theorem says_vc (hsp : SpecsOk Tryd.prog []) (h : ∀ (g : Int × Int × Int) (w : World),
True →
bcase (g.fst == (2 : Int))
(∃ (x : Int), Value.int IntKind.i8 (2 : Int) = Value.int IntKind.i8 x ∧ x = saysN g.fst g.snd.fst g.snd.snd ∧ w = w)
(bcase (g.snd.fst == (2 : Int) || (g.snd.fst == (1 : Int) || g.snd.fst == (9 : Int)))
(∃ (x : Int), Value.int IntKind.i8 (0 : Int) = Value.int IntKind.i8 x ∧ x = saysN g.fst g.snd.fst g.snd.snd ∧ w = w)
(bcase (g.snd.snd == (9 : Int))
(∃ (x : Int), Value.int IntKind.i8 (1 : Int) = Value.int IntKind.i8 x ∧ x = saysN g.fst g.snd.fst g.snd.snd ∧ w = w)
(bcase
(g.fst == (12 : Int) ||
(g.snd.fst == (12 : Int) ||
(g.fst == (5 : Int) || g.snd.fst == (5 : Int) && (!g.fst == (1 : Int) && g.fst != (6 : Int)))))
(∃ (x : Int), Value.int IntKind.i8 (0 : Int) = Value.int IntKind.i8 x ∧ x = saysN g.fst g.snd.fst g.snd.snd ∧ w = w)
(bcase
(g.snd.fst == (4 : Int) ||
bif g.snd.fst == (11 : Int) then !g.fst == (1 : Int) || g.snd.snd == (3 : Int) else g.snd.snd == (3 : Int))
(∃ (x : Int), Value.int IntKind.i8 (0 : Int) = Value.int IntKind.i8 x ∧ x = saysN g.fst g.snd.fst g.snd.snd ∧ w = w)
(bcase (g.fst == (1 : Int))
(∃ (x : Int), Value.int IntKind.i8 (1 : Int) = Value.int IntKind.i8 x ∧ x = saysN g.fst g.snd.fst g.snd.snd ∧ w = w)
(bcase (g.snd.fst == (6 : Int))
(∃ (x : Int), Value.int IntKind.i8 (0 : Int) = Value.int IntKind.i8 x ∧ x = saysN g.fst g.snd.fst g.snd.snd ∧ w = w)
(bcase (g.fst == (6 : Int) && g.snd.fst == (10 : Int))
(∃ (x : Int), Value.int IntKind.i8 (0 : Int) = Value.int IntKind.i8 x ∧ x = saysN g.fst g.snd.fst g.snd.snd ∧ w = w)
(bcase (g.fst == (6 : Int) || (g.fst == (7 : Int) || g.snd.fst == (7 : Int)))
(∃ (x : Int), Value.int IntKind.i8 (1 : Int) = Value.int IntKind.i8 x ∧ x = saysN g.fst g.snd.fst g.snd.snd ∧ w = w)
(∃ (x : Int),
Value.int IntKind.i8 (0 : Int) = Value.int IntKind.i8 x ∧ x = saysN g.fst g.snd.fst g.snd.snd ∧ w = w)))))))))) :
    (sSays).Ok Tryd.prog 58 :=
  ok_of_vc sSays (annOf []) [] (fun _ _ => rfl) (fun _ _ => rfl) hsp Tryd.func58 rfl (n := 3) (fun _ => rfl) (by kernel_rfl) (vcast (by kernel_rfl) h)

set_option maxRecDepth 1000000 in
theorem rwhere_vc (hsp : SpecsOk Tryd.prog spRWhere) (h : ∀ (g : ByteArray) (w : World),
U8 w ∧ g.size ≤ (67108864 : Nat) →
∃ (g1 : ByteArray),
#[Value.string g] = #[Value.string g1] ∧
(U8 w ∧ g1.size ≤ (67108864 : Nat)) ∧
∀ (x : Option Addr × Nat × Nat) (w' : World),
x.snd.fst = ncl g1 ∧
Made w w' (44 : TypeId) (2 : Nat) x.fst x.snd.fst (List.flatMap (pcV g1) (List.range (ncl g1))) x.snd.snd →
(∃ (x1 : Nat × Option Addr × Nat),
Value.int IntKind.i64 (0 : Int) = Value.int IntKind.i64 (↑x1.fst : Int) ∧
Value.int IntKind.i8 (-1 : Int) = Value.int IntKind.i8 (sol g x1.fst) ∧
Value.slice none (0 : Nat) (0 : Nat) = Value.slice x1.snd.fst x1.fst x1.snd.snd ∧
x1.fst ≤ ncl g ∧
Made w' w' (25 : TypeId) (1 : Nat) x1.snd.fst x1.fst (List.map (Value.int IntKind.i8) (List.take x1.fst (whereL g)))
x1.snd.snd) ∧
∀ (u : Nat → Value) (x1 : Nat × Option Addr × Nat) (w'1 : World),
x1.fst ≤ ncl g ∧
Made w' w'1 (25 : TypeId) (1 : Nat) x1.snd.fst x1.fst (List.map (Value.int IntKind.i8) (List.take x1.fst (whereL g)))
x1.snd.snd →
bcase (decide ((↑x1.fst : Int) < (↑x.snd.fst : Int)))
(∃ (k : Nat),
(↑x1.fst : Int) = (↑k : Int) ∧
k < x.snd.fst ∧
ptrE x.fst fun (b o : Nat) =>
∃ (s : ByteArray),
w'1.cell? { block := b, off := o + k * (2 : Nat) + (1 : Nat) } = some (Value.string s) ∧
∃ (g2 : ByteArray),
#[Value.string s] = #[Value.string g2] ∧
(U8 w'1 ∧ g2.size ≤ (67108864 : Nat)) ∧
∀ (x2 : Int) (w'2 : World),
x2 = kindC g2 ∧ Ext w'1 w'2 →
bcase (x2 != (1 : Int))
(∃ (c : Nat),
Value.int IntKind.i8 x2 = Value.int IntKind.i8 (sol g (c + (1 : Nat))) ∧ (↑x1.fst : Int) = (↑c : Int) ∧ Ext w'2 w'2)
(∃ (c : Nat),
Value.int IntKind.i8 (sol g x1.fst) = Value.int IntKind.i8 (sol g (c + (1 : Nat))) ∧
(↑x1.fst : Int) = (↑c : Int) ∧ Ext w'2 w'2) ∧
∀ (u1 : Nat → Value) (c : Nat) (w'3 : World),
(↑x1.fst : Int) = (↑c : Int) ∧ Ext w'2 w'3 →
InR IntKind.i64 ((↑x1.fst : Int) + (1 : Int)) ∧
bcase (decide ((↑x1.fst : Int) + (1 : Int) < (↑x.snd.fst : Int)))
(InR IntKind.i64 ((↑x1.fst : Int) + (1 : Int)) ∧
∃ (k1 : Nat),
(↑x1.fst : Int) + (1 : Int) = (↑k1 : Int) ∧
k1 < x.snd.fst ∧
ptrE x.fst fun (b1 o1 : Nat) =>
∃ (s1 : ByteArray),
w'3.cell? { block := b1, off := o1 + k1 * (2 : Nat) + (1 : Nat) } = some (Value.string s1) ∧
∃ (g3 : ByteArray),
#[Value.string s1] = #[Value.string g3] ∧
(U8 w'3 ∧ g3.size ≤ (67108864 : Nat)) ∧
∀ (x3 : Int) (w'4 : World),
x3 = kindC g3 ∧ Ext w'3 w'4 →
∃ (g4 : Int × Int × Int),
#[Value.int IntKind.i8 x2, Value.int IntKind.i8 x3, Value.int IntKind.i8 (sol g (c + (1 : Nat)))] =
#[Value.int IntKind.i8 g4.fst, Value.int IntKind.i8 g4.snd.fst, Value.int IntKind.i8 g4.snd.snd] ∧
True ∧
∀ (x4 : Int) (w'5 : World),
x4 = saysN g4.fst g4.snd.fst g4.snd.snd ∧ w'5 = w'4 →
∀ (b2 : Nat) (w1 : World),
New w'5 (Obj.cells #[Value.int IntKind.i8 x4] (25 : Nat)) b2 w1 →
∃ (a' : Option Addr),
∃ (c' : Nat),
∃ (w'6 : World),
AppRun Tryd.prog #[(22 : Nat), (22 : Nat)] (22 : Nat) (Value.slice x1.snd.fst x1.fst x1.snd.snd)
(Value.slice (some { block := b2, off := (0 : Nat) }) (1 : Nat) (1 : Nat)) w1 a' (x1.fst + (1 : Nat)) c' w'6 ∧
KO w1 w'6 ∧
InR IntKind.i64 ((↑x1.fst : Int) + (1 : Int)) ∧
∃ (y : Nat × Option Addr × Nat),
Value.int IntKind.i64 ((↑x1.fst : Int) + (1 : Int)) = Value.int IntKind.i64 (↑y.fst : Int) ∧
Value.int IntKind.i8 (sol g (c + (1 : Nat))) = Value.int IntKind.i8 (sol g y.fst) ∧
Value.slice a' (x1.fst + (1 : Nat)) c' = Value.slice y.snd.fst y.fst y.snd.snd ∧
(y.fst ≤ ncl g ∧
Made w' w'6 (25 : TypeId) (1 : Nat) y.snd.fst y.fst (List.map (Value.int IntKind.i8) (List.take y.fst (whereL g)))
y.snd.snd) ∧
ncl g - y.fst < ncl g - x1.fst)
(bcase (x2 == (2 : Int))
(∀ (b1 : Nat) (w1 : World),
New w'3 (Obj.cells #[Value.int IntKind.i8 (2 : Int)] (25 : Nat)) b1 w1 →
∃ (a' : Option Addr),
∃ (c' : Nat),
∃ (w'4 : World),
AppRun Tryd.prog #[(22 : Nat), (22 : Nat)] (22 : Nat) (Value.slice x1.snd.fst x1.fst x1.snd.snd)
(Value.slice (some { block := b1, off := (0 : Nat) }) (1 : Nat) (1 : Nat)) w1 a' (x1.fst + (1 : Nat)) c' w'4 ∧
KO w1 w'4 ∧
InR IntKind.i64 ((↑x1.fst : Int) + (1 : Int)) ∧
∃ (y : Nat × Option Addr × Nat),
Value.int IntKind.i64 ((↑x1.fst : Int) + (1 : Int)) = Value.int IntKind.i64 (↑y.fst : Int) ∧
Value.int IntKind.i8 (sol g (c + (1 : Nat))) = Value.int IntKind.i8 (sol g y.fst) ∧
Value.slice a' (x1.fst + (1 : Nat)) c' = Value.slice y.snd.fst y.fst y.snd.snd ∧
(y.fst ≤ ncl g ∧
Made w' w'4 (25 : TypeId) (1 : Nat) y.snd.fst y.fst (List.map (Value.int IntKind.i8) (List.take y.fst (whereL g)))
y.snd.snd) ∧
ncl g - y.fst < ncl g - x1.fst)
(∀ (b1 : Nat) (w1 : World),
New w'3 (Obj.cells #[Value.int IntKind.i8 (0 : Int)] (25 : Nat)) b1 w1 →
∃ (a' : Option Addr),
∃ (c' : Nat),
∃ (w'4 : World),
AppRun Tryd.prog #[(22 : Nat), (22 : Nat)] (22 : Nat) (Value.slice x1.snd.fst x1.fst x1.snd.snd)
(Value.slice (some { block := b1, off := (0 : Nat) }) (1 : Nat) (1 : Nat)) w1 a' (x1.fst + (1 : Nat)) c' w'4 ∧
KO w1 w'4 ∧
InR IntKind.i64 ((↑x1.fst : Int) + (1 : Int)) ∧
∃ (y : Nat × Option Addr × Nat),
Value.int IntKind.i64 ((↑x1.fst : Int) + (1 : Int)) = Value.int IntKind.i64 (↑y.fst : Int) ∧
Value.int IntKind.i8 (sol g (c + (1 : Nat))) = Value.int IntKind.i8 (sol g y.fst) ∧
Value.slice a' (x1.fst + (1 : Nat)) c' = Value.slice y.snd.fst y.fst y.snd.snd ∧
(y.fst ≤ ncl g ∧
Made w' w'4 (25 : TypeId) (1 : Nat) y.snd.fst y.fst (List.map (Value.int IntKind.i8) (List.take y.fst (whereL g)))
y.snd.snd) ∧
ncl g - y.fst < ncl g - x1.fst)))
(∃ (x2 : Option Addr × Nat × Nat),
Value.slice x1.snd.fst x1.fst x1.snd.snd = Value.slice x2.fst x2.snd.fst x2.snd.snd ∧
x2.snd.fst = (whereL g).length ∧
Made w w'1 (25 : TypeId) (1 : Nat) x2.fst x2.snd.fst (List.map (Value.int IntKind.i8) (whereL g)) x2.snd.snd)) :
    ((sSL .i8 25 whereL)).Ok Tryd.prog 19 :=
  ok_of_vc (sSL .i8 25 whereL) annRWhere spRWhere (fun _ _ => rfl) (fun _ _ => rfl) hsp Tryd.func19 rfl (n := 1) (fun _ => rfl) (by kernel_rfl) (vcast (by kernel_rfl) h)

set_option maxRecDepth 1000000 in
theorem rule0_vc (hsp : SpecsOk Tryd.prog spSpaced) (h : ∀ (g : Int × Int × Int) (w : World),
True →
∀ (b : Nat) (w1 : World),
New w
(Obj.cells #[Value.int IntKind.i8 g.fst, Value.int IntKind.i8 g.snd.fst, Value.int IntKind.i8 g.snd.snd] (71 : Nat)) b
w1 →
∃ (n : Int),
w1.cell? { block := b, off := (0 : Nat) } = some (Value.int IntKind.i8 n) ∧
∃ (x : Bool), Value.bool (n == (2 : Int)) = Value.bool x ∧ x = ruleF (0 : Nat) g.fst g.snd.fst g.snd.snd ∧ Ext w w1) :
    ((sRule 0)).Ok Tryd.prog 88 :=
  ok_of_vc (sRule 0) (annOf spSpaced) spSpaced (fun _ _ => rfl) (fun _ _ => rfl) hsp Tryd.func88 rfl (n := 1) (fun _ => rfl) (by kernel_rfl) (vcast (by kernel_rfl) h)

set_option maxRecDepth 1000000 in
theorem rule1_vc (hsp : SpecsOk Tryd.prog spSpaced) (h : ∀ (g : Int × Int × Int) (w : World),
True →
∀ (b : Nat) (w1 : World),
New w
(Obj.cells #[Value.int IntKind.i8 g.fst, Value.int IntKind.i8 g.snd.fst, Value.int IntKind.i8 g.snd.snd] (71 : Nat)) b
w1 →
∃ (n : Int),
w1.cell? { block := b, off := (1 : Nat) } = some (Value.int IntKind.i8 n) ∧
bcase (n == (2 : Int))
(∃ (x : Bool), Value.bool true = Value.bool x ∧ x = ruleF (1 : Nat) g.fst g.snd.fst g.snd.snd ∧ Ext w w1)
(∃ (n1 : Int),
w1.cell? { block := b, off := (1 : Nat) } = some (Value.int IntKind.i8 n1) ∧
bcase (n1 == (1 : Int))
(∃ (x : Bool), Value.bool true = Value.bool x ∧ x = ruleF (1 : Nat) g.fst g.snd.fst g.snd.snd ∧ Ext w w1)
(∃ (n2 : Int),
w1.cell? { block := b, off := (1 : Nat) } = some (Value.int IntKind.i8 n2) ∧
∃ (x : Bool), Value.bool (n2 == (9 : Int)) = Value.bool x ∧ x = ruleF (1 : Nat) g.fst g.snd.fst g.snd.snd ∧ Ext w w1))) :
    ((sRule 1)).Ok Tryd.prog 89 :=
  ok_of_vc (sRule 1) (annOf spSpaced) spSpaced (fun _ _ => rfl) (fun _ _ => rfl) hsp Tryd.func89 rfl (n := 1) (fun _ => rfl) (by kernel_rfl) (vcast (by kernel_rfl) h)

set_option maxRecDepth 1000000 in
theorem rule2_vc (hsp : SpecsOk Tryd.prog spSpaced) (h : ∀ (g : Int × Int × Int) (w : World),
True →
∀ (b : Nat) (w1 : World),
New w
(Obj.cells #[Value.int IntKind.i8 g.fst, Value.int IntKind.i8 g.snd.fst, Value.int IntKind.i8 g.snd.snd] (71 : Nat)) b
w1 →
∃ (n : Int),
w1.cell? { block := b, off := (2 : Nat) } = some (Value.int IntKind.i8 n) ∧
∃ (x : Bool), Value.bool (n == (9 : Int)) = Value.bool x ∧ x = ruleF (2 : Nat) g.fst g.snd.fst g.snd.snd ∧ Ext w w1) :
    ((sRule 2)).Ok Tryd.prog 90 :=
  ok_of_vc (sRule 2) (annOf spSpaced) spSpaced (fun _ _ => rfl) (fun _ _ => rfl) hsp Tryd.func90 rfl (n := 1) (fun _ => rfl) (by kernel_rfl) (vcast (by kernel_rfl) h)

set_option maxRecDepth 1000000 in
theorem rule3_vc (hsp : SpecsOk Tryd.prog spSpaced) (h : ∀ (g : Int × Int × Int) (w : World),
True →
∀ (b : Nat) (w1 : World),
New w
(Obj.cells #[Value.int IntKind.i8 g.fst, Value.int IntKind.i8 g.snd.fst, Value.int IntKind.i8 g.snd.snd] (71 : Nat)) b
w1 →
∃ (n : Int),
w1.cell? { block := b, off := (0 : Nat) } = some (Value.int IntKind.i8 n) ∧
bcase (n == (12 : Int))
(∃ (x : Bool), Value.bool true = Value.bool x ∧ x = ruleF (3 : Nat) g.fst g.snd.fst g.snd.snd ∧ Ext w w1)
(∃ (n1 : Int),
w1.cell? { block := b, off := (1 : Nat) } = some (Value.int IntKind.i8 n1) ∧
bcase (n1 == (12 : Int))
(∃ (x : Bool), Value.bool true = Value.bool x ∧ x = ruleF (3 : Nat) g.fst g.snd.fst g.snd.snd ∧ Ext w w1)
(∃ (n2 : Int),
w1.cell? { block := b, off := (0 : Nat) } = some (Value.int IntKind.i8 n2) ∧
∃ (x : Bool), Value.bool (n2 == (5 : Int)) = Value.bool x ∧ x = ruleF (3 : Nat) g.fst g.snd.fst g.snd.snd ∧ Ext w w1))) :
    ((sRule 3)).Ok Tryd.prog 91 :=
  ok_of_vc (sRule 3) (annOf spSpaced) spSpaced (fun _ _ => rfl) (fun _ _ => rfl) hsp Tryd.func91 rfl (n := 1) (fun _ => rfl) (by kernel_rfl) (vcast (by kernel_rfl) h)

set_option maxRecDepth 1000000 in
theorem rule4_vc (hsp : SpecsOk Tryd.prog spSpaced) (h : ∀ (g : Int × Int × Int) (w : World),
True →
∀ (b : Nat) (w1 : World),
New w
(Obj.cells #[Value.int IntKind.i8 g.fst, Value.int IntKind.i8 g.snd.fst, Value.int IntKind.i8 g.snd.snd] (71 : Nat)) b
w1 →
∃ (n : Int),
w1.cell? { block := b, off := (1 : Nat) } = some (Value.int IntKind.i8 n) ∧
bcase (n == (5 : Int))
(∃ (n1 : Int),
w1.cell? { block := b, off := (0 : Nat) } = some (Value.int IntKind.i8 n1) ∧
∃ (n2 : Int),
w1.cell? { block := b, off := (1 : Nat) } = some (Value.int IntKind.i8 n2) ∧
∃ (n3 : Int),
w1.cell? { block := b, off := (2 : Nat) } = some (Value.int IntKind.i8 n3) ∧
∃ (g1 : Int × Int × Int),
#[Value.agg #[Value.int IntKind.i8 n1, Value.int IntKind.i8 n2, Value.int IntKind.i8 n3]] =
#[Value.agg #[Value.int IntKind.i8 g1.fst, Value.int IntKind.i8 g1.snd.fst, Value.int IntKind.i8 g1.snd.snd]] ∧
True ∧
∀ (x : Bool) (w' : World),
x = ruleF (7 : Nat) g1.fst g1.snd.fst g1.snd.snd ∧ Ext w1 w' →
bcase (!x)
(∃ (n4 : Int),
w'.cell? { block := b, off := (0 : Nat) } = some (Value.int IntKind.i8 n4) ∧
∃ (x1 : Bool), Value.bool (n4 != (6 : Int)) = Value.bool x1 ∧ x1 = ruleF (4 : Nat) g.fst g.snd.fst g.snd.snd ∧ Ext w w')
(∃ (x1 : Bool), Value.bool false = Value.bool x1 ∧ x1 = ruleF (4 : Nat) g.fst g.snd.fst g.snd.snd ∧ Ext w w'))
(∃ (x : Bool), Value.bool false = Value.bool x ∧ x = ruleF (4 : Nat) g.fst g.snd.fst g.snd.snd ∧ Ext w w1)) :
    ((sRule 4)).Ok Tryd.prog 92 :=
  ok_of_vc (sRule 4) (annOf spSpaced) spSpaced (fun _ _ => rfl) (fun _ _ => rfl) hsp Tryd.func92 rfl (n := 1) (fun _ => rfl) (by kernel_rfl) (vcast (by kernel_rfl) h)

set_option maxRecDepth 1000000 in
theorem rule5_vc (hsp : SpecsOk Tryd.prog spSpaced) (h : ∀ (g : Int × Int × Int) (w : World),
True →
∀ (b : Nat) (w1 : World),
New w
(Obj.cells #[Value.int IntKind.i8 g.fst, Value.int IntKind.i8 g.snd.fst, Value.int IntKind.i8 g.snd.snd] (71 : Nat)) b
w1 →
∃ (n : Int),
w1.cell? { block := b, off := (1 : Nat) } = some (Value.int IntKind.i8 n) ∧
bcase (n == (4 : Int))
(∃ (x : Bool), Value.bool true = Value.bool x ∧ x = ruleF (5 : Nat) g.fst g.snd.fst g.snd.snd ∧ Ext w w1)
(∃ (n1 : Int),
w1.cell? { block := b, off := (2 : Nat) } = some (Value.int IntKind.i8 n1) ∧
∃ (x : Bool), Value.bool (n1 == (3 : Int)) = Value.bool x ∧ x = ruleF (5 : Nat) g.fst g.snd.fst g.snd.snd ∧ Ext w w1)) :
    ((sRule 5)).Ok Tryd.prog 93 :=
  ok_of_vc (sRule 5) (annOf spSpaced) spSpaced (fun _ _ => rfl) (fun _ _ => rfl) hsp Tryd.func93 rfl (n := 1) (fun _ => rfl) (by kernel_rfl) (vcast (by kernel_rfl) h)

set_option maxRecDepth 1000000 in
theorem rule6_vc (hsp : SpecsOk Tryd.prog spSpaced) (h : ∀ (g : Int × Int × Int) (w : World),
True →
∀ (b : Nat) (w1 : World),
New w
(Obj.cells #[Value.int IntKind.i8 g.fst, Value.int IntKind.i8 g.snd.fst, Value.int IntKind.i8 g.snd.snd] (71 : Nat)) b
w1 →
∃ (n : Int),
w1.cell? { block := b, off := (1 : Nat) } = some (Value.int IntKind.i8 n) ∧
bcase (n == (11 : Int))
(∃ (n1 : Int),
w1.cell? { block := b, off := (0 : Nat) } = some (Value.int IntKind.i8 n1) ∧
∃ (n2 : Int),
w1.cell? { block := b, off := (1 : Nat) } = some (Value.int IntKind.i8 n2) ∧
∃ (n3 : Int),
w1.cell? { block := b, off := (2 : Nat) } = some (Value.int IntKind.i8 n3) ∧
∃ (g1 : Int × Int × Int),
#[Value.agg #[Value.int IntKind.i8 n1, Value.int IntKind.i8 n2, Value.int IntKind.i8 n3]] =
#[Value.agg #[Value.int IntKind.i8 g1.fst, Value.int IntKind.i8 g1.snd.fst, Value.int IntKind.i8 g1.snd.snd]] ∧
True ∧
∀ (x : Bool) (w' : World),
x = ruleF (7 : Nat) g1.fst g1.snd.fst g1.snd.snd ∧ Ext w1 w' →
∃ (x1 : Bool), (Value.bool !x) = Value.bool x1 ∧ x1 = ruleF (6 : Nat) g.fst g.snd.fst g.snd.snd ∧ Ext w w')
(∃ (x : Bool), Value.bool false = Value.bool x ∧ x = ruleF (6 : Nat) g.fst g.snd.fst g.snd.snd ∧ Ext w w1)) :
    ((sRule 6)).Ok Tryd.prog 94 :=
  ok_of_vc (sRule 6) (annOf spSpaced) spSpaced (fun _ _ => rfl) (fun _ _ => rfl) hsp Tryd.func94 rfl (n := 1) (fun _ => rfl) (by kernel_rfl) (vcast (by kernel_rfl) h)

set_option maxRecDepth 1000000 in
theorem rule8_vc (hsp : SpecsOk Tryd.prog spSpaced) (h : ∀ (g : Int × Int × Int) (w : World),
True →
∀ (b : Nat) (w1 : World),
New w
(Obj.cells #[Value.int IntKind.i8 g.fst, Value.int IntKind.i8 g.snd.fst, Value.int IntKind.i8 g.snd.snd] (71 : Nat)) b
w1 →
∃ (n : Int),
w1.cell? { block := b, off := (1 : Nat) } = some (Value.int IntKind.i8 n) ∧
∃ (x : Bool), Value.bool (n == (6 : Int)) = Value.bool x ∧ x = ruleF (8 : Nat) g.fst g.snd.fst g.snd.snd ∧ Ext w w1) :
    ((sRule 8)).Ok Tryd.prog 95 :=
  ok_of_vc (sRule 8) (annOf spSpaced) spSpaced (fun _ _ => rfl) (fun _ _ => rfl) hsp Tryd.func95 rfl (n := 1) (fun _ => rfl) (by kernel_rfl) (vcast (by kernel_rfl) h)

set_option maxRecDepth 1000000 in
theorem rule9_vc (hsp : SpecsOk Tryd.prog spSpaced) (h : ∀ (g : Int × Int × Int) (w : World),
True →
∀ (b : Nat) (w1 : World),
New w
(Obj.cells #[Value.int IntKind.i8 g.fst, Value.int IntKind.i8 g.snd.fst, Value.int IntKind.i8 g.snd.snd] (71 : Nat)) b
w1 →
∃ (n : Int),
w1.cell? { block := b, off := (0 : Nat) } = some (Value.int IntKind.i8 n) ∧
bcase (n == (6 : Int))
(∃ (n1 : Int),
w1.cell? { block := b, off := (1 : Nat) } = some (Value.int IntKind.i8 n1) ∧
∃ (x : Bool), Value.bool (n1 == (10 : Int)) = Value.bool x ∧ x = ruleF (9 : Nat) g.fst g.snd.fst g.snd.snd ∧ Ext w w1)
(∃ (x : Bool), Value.bool false = Value.bool x ∧ x = ruleF (9 : Nat) g.fst g.snd.fst g.snd.snd ∧ Ext w w1)) :
    ((sRule 9)).Ok Tryd.prog 96 :=
  ok_of_vc (sRule 9) (annOf spSpaced) spSpaced (fun _ _ => rfl) (fun _ _ => rfl) hsp Tryd.func96 rfl (n := 1) (fun _ => rfl) (by kernel_rfl) (vcast (by kernel_rfl) h)

set_option maxRecDepth 1000000 in
theorem rule10_vc (hsp : SpecsOk Tryd.prog spSpaced) (h : ∀ (g : Int × Int × Int) (w : World),
True →
∀ (b : Nat) (w1 : World),
New w
(Obj.cells #[Value.int IntKind.i8 g.fst, Value.int IntKind.i8 g.snd.fst, Value.int IntKind.i8 g.snd.snd] (71 : Nat)) b
w1 →
∃ (n : Int),
w1.cell? { block := b, off := (0 : Nat) } = some (Value.int IntKind.i8 n) ∧
∃ (x : Bool), Value.bool (n == (6 : Int)) = Value.bool x ∧ x = ruleF (10 : Nat) g.fst g.snd.fst g.snd.snd ∧ Ext w w1) :
    ((sRule 10)).Ok Tryd.prog 97 :=
  ok_of_vc (sRule 10) (annOf spSpaced) spSpaced (fun _ _ => rfl) (fun _ _ => rfl) hsp Tryd.func97 rfl (n := 1) (fun _ => rfl) (by kernel_rfl) (vcast (by kernel_rfl) h)

set_option maxRecDepth 1000000 in
theorem rule11_vc (hsp : SpecsOk Tryd.prog spSpaced) (h : ∀ (g : Int × Int × Int) (w : World),
True →
∀ (b : Nat) (w1 : World),
New w
(Obj.cells #[Value.int IntKind.i8 g.fst, Value.int IntKind.i8 g.snd.fst, Value.int IntKind.i8 g.snd.snd] (71 : Nat)) b
w1 →
∃ (n : Int),
w1.cell? { block := b, off := (0 : Nat) } = some (Value.int IntKind.i8 n) ∧
bcase (n == (7 : Int))
(∃ (x : Bool), Value.bool true = Value.bool x ∧ x = ruleF (11 : Nat) g.fst g.snd.fst g.snd.snd ∧ Ext w w1)
(∃ (n1 : Int),
w1.cell? { block := b, off := (1 : Nat) } = some (Value.int IntKind.i8 n1) ∧
∃ (x : Bool), Value.bool (n1 == (7 : Int)) = Value.bool x ∧ x = ruleF (11 : Nat) g.fst g.snd.fst g.snd.snd ∧ Ext w w1)) :
    ((sRule 11)).Ok Tryd.prog 98 :=
  ok_of_vc (sRule 11) (annOf spSpaced) spSpaced (fun _ _ => rfl) (fun _ _ => rfl) hsp Tryd.func98 rfl (n := 1) (fun _ => rfl) (by kernel_rfl) (vcast (by kernel_rfl) h)

set_option maxRecDepth 1000000 in
theorem rule7_vc (hsp : SpecsOk Tryd.prog []) (h : ∀ (g : Int × Int × Int) (w : World),
True →
∀ (b : Nat) (w1 : World),
New w
(Obj.cells #[Value.int IntKind.i8 g.fst, Value.int IntKind.i8 g.snd.fst, Value.int IntKind.i8 g.snd.snd] (71 : Nat)) b
w1 →
∃ (n : Int),
w1.cell? { block := b, off := (0 : Nat) } = some (Value.int IntKind.i8 n) ∧
∃ (x : Bool), Value.bool (n == (1 : Int)) = Value.bool x ∧ x = ruleF (7 : Nat) g.fst g.snd.fst g.snd.snd ∧ Ext w w1) :
    ((sRule 7)).Ok Tryd.prog 61 :=
  ok_of_vc (sRule 7) (annOf []) [] (fun _ _ => rfl) (fun _ _ => rfl) hsp Tryd.func61 rfl (n := 1) (fun _ => rfl) (by kernel_rfl) (vcast (by kernel_rfl) h)

set_option maxRecDepth 1000000 in
theorem rules_vc (hsp : SpecsOk Tryd.prog []) (h : ∀ (g : Unit) (w : World),
True →
∀ (b : Nat) (w1 : World),
New w
(Obj.cells
#[Value.func (Fn.func (88 : Nat)) #[] #[], Value.int IntKind.i8 (2 : Int), Value.func (Fn.func (89 : Nat)) #[] #[],
Value.int IntKind.i8 (0 : Int), Value.func (Fn.func (90 : Nat)) #[] #[], Value.int IntKind.i8 (1 : Int),
Value.func (Fn.func (91 : Nat)) #[] #[], Value.int IntKind.i8 (0 : Int), Value.func (Fn.func (92 : Nat)) #[] #[],
Value.int IntKind.i8 (0 : Int), Value.func (Fn.func (93 : Nat)) #[] #[], Value.int IntKind.i8 (0 : Int),
Value.func (Fn.func (94 : Nat)) #[] #[], Value.int IntKind.i8 (0 : Int), Value.func (Fn.func (61 : Nat)) #[] #[],
Value.int IntKind.i8 (1 : Int), Value.func (Fn.func (95 : Nat)) #[] #[], Value.int IntKind.i8 (0 : Int),
Value.func (Fn.func (96 : Nat)) #[] #[], Value.int IntKind.i8 (0 : Int), Value.func (Fn.func (97 : Nat)) #[] #[],
Value.int IntKind.i8 (1 : Int), Value.func (Fn.func (98 : Nat)) #[] #[], Value.int IntKind.i8 (1 : Int)]
(74 : Nat))
b w1 →
∃ (x : Nat),
Value.slice (some { block := b, off := (0 : Nat) }) (12 : Nat) (12 : Nat) =
Value.slice (some { block := x, off := (0 : Nat) }) (12 : Nat) (12 : Nat) ∧
w.heap.size ≤ x ∧
w1.heap[x]? =
some
(Obj.cells
#[Value.func (Fn.func (88 : Nat)) #[] #[], Value.int IntKind.i8 (2 : Int), Value.func (Fn.func (89 : Nat)) #[] #[],
Value.int IntKind.i8 (0 : Int), Value.func (Fn.func (90 : Nat)) #[] #[], Value.int IntKind.i8 (1 : Int),
Value.func (Fn.func (91 : Nat)) #[] #[], Value.int IntKind.i8 (0 : Int), Value.func (Fn.func (92 : Nat)) #[] #[],
Value.int IntKind.i8 (0 : Int), Value.func (Fn.func (93 : Nat)) #[] #[], Value.int IntKind.i8 (0 : Int),
Value.func (Fn.func (94 : Nat)) #[] #[], Value.int IntKind.i8 (0 : Int), Value.func (Fn.func (61 : Nat)) #[] #[],
Value.int IntKind.i8 (1 : Int), Value.func (Fn.func (95 : Nat)) #[] #[], Value.int IntKind.i8 (0 : Int),
Value.func (Fn.func (96 : Nat)) #[] #[], Value.int IntKind.i8 (0 : Int), Value.func (Fn.func (97 : Nat)) #[] #[],
Value.int IntKind.i8 (1 : Int), Value.func (Fn.func (98 : Nat)) #[] #[], Value.int IntKind.i8 (1 : Int)]
(74 : TypeId)) ∧
Ext w w1) :
    (sRules).Ok Tryd.prog 59 :=
  ok_of_vc sRules (annOf []) [] (fun _ _ => rfl) (fun _ _ => rfl) hsp Tryd.func59 rfl (n := 0) (fun _ => rfl) (by kernel_rfl) (vcast (by kernel_rfl) h)

set_option maxRecDepth 1000000 in
theorem where_vc (hsp : SpecsOk Tryd.prog spWhere) (h : ∀ (g : ByteArray) (w : World),
U8 w ∧ g.size ≤ (67108864 : Nat) →
∃ (g1 : Unit),
(#[] : Array Value) = #[] ∧
True ∧
∀ (x : Nat) (w' : World),
w.heap.size ≤ x ∧
w'.heap[x]? =
some
(Obj.cells
#[Value.func (Fn.func (88 : Nat)) #[] #[], Value.int IntKind.i8 (2 : Int), Value.func (Fn.func (89 : Nat)) #[] #[],
Value.int IntKind.i8 (0 : Int), Value.func (Fn.func (90 : Nat)) #[] #[], Value.int IntKind.i8 (1 : Int),
Value.func (Fn.func (91 : Nat)) #[] #[], Value.int IntKind.i8 (0 : Int), Value.func (Fn.func (92 : Nat)) #[] #[],
Value.int IntKind.i8 (0 : Int), Value.func (Fn.func (93 : Nat)) #[] #[], Value.int IntKind.i8 (0 : Int),
Value.func (Fn.func (94 : Nat)) #[] #[], Value.int IntKind.i8 (0 : Int), Value.func (Fn.func (61 : Nat)) #[] #[],
Value.int IntKind.i8 (1 : Int), Value.func (Fn.func (95 : Nat)) #[] #[], Value.int IntKind.i8 (0 : Int),
Value.func (Fn.func (96 : Nat)) #[] #[], Value.int IntKind.i8 (0 : Int), Value.func (Fn.func (97 : Nat)) #[] #[],
Value.int IntKind.i8 (1 : Int), Value.func (Fn.func (98 : Nat)) #[] #[], Value.int IntKind.i8 (1 : Int)]
(74 : TypeId)) ∧
Ext w w' →
∀ (b : Nat) (w1 : World),
New w' (Obj.cells #[Value.slice none (0 : Nat) (0 : Nat)] (68 : Nat)) b w1 →
true = true ∧
(∃ (old : Value), w1.cell? { block := b, off := (0 : Nat) } = some old) ∧
w1.frozen? { block := b, off := (0 : Nat) } = false ∧
∀ (w11 : World),
Stored w1 { block := b, off := (0 : Nat) } (Value.slice (some { block := x, off := (0 : Nat) }) (12 : Nat) (12 : Nat))
w11 →
∀ (b1 : Nat) (w12 : World),
New w11 (Obj.cells #[Value.slice none (0 : Nat) (0 : Nat)] (22 : Nat)) b1 w12 →
∀ (b2 : Nat) (w13 : World),
New w12
(Obj.cells #[Value.int IntKind.i8 (0 : Int), Value.int IntKind.i8 (0 : Int), Value.int IntKind.i8 (-1 : Int)]
(71 : Nat))
b2 w13 →
∀ (b3 : Nat) (w14 : World),
New w13 (Obj.cells #[Value.bool false] (4 : Nat)) b3 w14 →
true = true ∧
(∃ (old : Value), w14.cell? { block := b3, off := (0 : Nat) } = some old) ∧
w14.frozen? { block := b3, off := (0 : Nat) } = false ∧
∀ (w15 : World),
Stored w14 { block := b3, off := (0 : Nat) } (Value.bool true) w15 →
∃ (g2 : ByteArray),
#[Value.string g] = #[Value.string g2] ∧
True ∧
∀ (x1 : Nat) (w'1 : World),
w15.heap.size ≤ x1 ∧ w'1.heap[x1]? = some (Obj.cells #[Value.string g2] (9 : TypeId)) ∧ Ext w15 w'1 →
∃ (xs : List (Nat × ByteArray)),
∃ (C : Nat → Prop),
∃ (D0 : Nat → Prop),
IterAt Tryd.prog (Value.func (Fn.func (101 : Nat)) #[] #[Value.pointer (some { block := x1, off := (0 : Nat) })])
(List.map encPc xs) C w'1 ∧
DomOk w'1 C D0 ∧
(∃ (a9 : Option Addr),
∃ (c : Nat),
(D0 = fun (q : Nat) =>
q = ptrB (Value.pointer (some { block := b1, off := (0 : Nat) })) ∨
q = ptrB (Value.pointer (some { block := b2, off := (0 : Nat) })) ∨
q = ptrB (Value.pointer (some { block := b3, off := (0 : Nat) })) ∨ blk a9 = some q) ∧
WhV w'1 (ptrB (Value.pointer (some { block := b, off := (0 : Nat) })))
(ptrB (Value.pointer (some { block := b1, off := (0 : Nat) })))
(ptrB (Value.pointer (some { block := b2, off := (0 : Nat) })))
(ptrB (Value.pointer (some { block := b3, off := (0 : Nat) }))) (0 : Nat) g (0 : Nat) a9 c) ∧
(Stab w'1.heap.size fun (k : Nat) (D : Nat → Prop) (W : World) =>
∃ (a : Option Addr),
∃ (c : Nat),
(D = fun (q : Nat) =>
q = ptrB (Value.pointer (some { block := b1, off := (0 : Nat) })) ∨
q = ptrB (Value.pointer (some { block := b2, off := (0 : Nat) })) ∨
q = ptrB (Value.pointer (some { block := b3, off := (0 : Nat) })) ∨ blk a = some q) ∧
WhV W (ptrB (Value.pointer (some { block := b, off := (0 : Nat) })))
(ptrB (Value.pointer (some { block := b1, off := (0 : Nat) })))
(ptrB (Value.pointer (some { block := b2, off := (0 : Nat) })))
(ptrB (Value.pointer (some { block := b3, off := (0 : Nat) }))) (0 : Nat) g k a c) ∧
(∀ (x2 : Exit), Stab w'1.heap.size fun (x : Nat) (D : Nat → Prop) (W : World) => (1 : Nat) = (0 : Nat)) ∧
(∀ (k : Nat) (x2 : Nat × ByteArray) (D : Nat → Prop) (W : World),
xs[k]? = some x2 →
(∃ (a10 : Option Addr),
∃ (c : Nat),
(D = fun (q : Nat) =>
q = ptrB (Value.pointer (some { block := b1, off := (0 : Nat) })) ∨
q = ptrB (Value.pointer (some { block := b2, off := (0 : Nat) })) ∨
q = ptrB (Value.pointer (some { block := b3, off := (0 : Nat) })) ∨ blk a10 = some q) ∧
WhV W (ptrB (Value.pointer (some { block := b, off := (0 : Nat) })))
(ptrB (Value.pointer (some { block := b1, off := (0 : Nat) })))
(ptrB (Value.pointer (some { block := b2, off := (0 : Nat) })))
(ptrB (Value.pointer (some { block := b3, off := (0 : Nat) }))) (0 : Nat) g k a10 c) →
Mid w'1 D0 D W →
∃ (g3 : ByteArray),
#[Value.string x2.snd] = #[Value.string g3] ∧
(U8 W ∧ g3.size ≤ (67108864 : Nat)) ∧
∀ (x3 : Int) (w'2 : World),
x3 = kindC g3 ∧ Ext W w'2 →
true = true ∧
(∃ (old : Value), w'2.cell? { block := b2, off := (1 : Nat) } = some old) ∧
w'2.frozen? { block := b2, off := (1 : Nat) } = false ∧
∀ (w16 : World),
Stored w'2 { block := b2, off := (1 : Nat) } (Value.int IntKind.i8 x3) w16 →
∃ (b4 : Bool),
w16.cell? { block := b3, off := (0 : Nat) } = some (Value.bool b4) ∧
bcase (!b4)
(∃ (a14 : Option Addr),
∃ (n : Nat),
∃ (c : Nat),
w16.cell? { block := b1, off := (0 : Nat) } = some (Value.slice a14 n c) ∧
∀ (b5 : Nat) (w17 : World),
New w16 (Obj.cells #[Value.int IntKind.i8 (0 : Int)] (25 : Nat)) b5 w17 →
∃ (a' : Option Addr),
∃ (c' : Nat),
∃ (w'3 : World),
AppRun Tryd.prog #[(22 : Nat), (22 : Nat)] (22 : Nat) (Value.slice a14 n c)
(Value.slice (some { block := b5, off := (0 : Nat) }) (1 : Nat) (1 : Nat)) w17 a' (n + (1 : Nat)) c' w'3 ∧
KO w17 w'3 ∧
true = true ∧
(∃ (old : Value), w'3.cell? { block := b1, off := (0 : Nat) } = some old) ∧
w'3.frozen? { block := b1, off := (0 : Nat) } = false ∧
∀ (w18 : World),
Stored w'3 { block := b1, off := (0 : Nat) } (Value.slice a' (n + (1 : Nat)) c') w18 →
∃ (a17 : Option Addr),
∃ (n1 : Nat),
∃ (c1 : Nat),
w18.cell? { block := b, off := (0 : Nat) } = some (Value.slice a17 n1 c1) ∧
(∃ (x4 : Nat),
Value.int IntKind.i64 (0 : Int) = Value.int IntKind.i64 (↑x4 : Int) ∧
x4 ≤ (12 : Nat) ∧
Ext w18 w18 ∧
∃ (a18 : Int),
∃ (b6 : Int),
∃ (c2 : Int),
w18.heap[ptrB (Value.pointer (some { block := b2, off := (0 : Nat) }))]? =
some (Obj.cells #[Value.int IntKind.i8 a18, Value.int IntKind.i8 b6, Value.int IntKind.i8 c2] (71 : TypeId)) ∧
∀ (j : Nat), j < x4 → ruleF j a18 b6 c2 = false) ∧
∀ (u : Nat → Value) (x4 : Nat) (w'4 : World),
(x4 ≤ (12 : Nat) ∧
Ext w18 w'4 ∧
∃ (a18 : Int),
∃ (b6 : Int),
∃ (c2 : Int),
w18.heap[ptrB (Value.pointer (some { block := b2, off := (0 : Nat) }))]? =
some (Obj.cells #[Value.int IntKind.i8 a18, Value.int IntKind.i8 b6, Value.int IntKind.i8 c2] (71 : TypeId)) ∧
∀ (j : Nat), j < x4 → ruleF j a18 b6 c2 = false) →
bcase (decide ((↑x4 : Int) < (↑n1 : Int)))
(∃ (k1 : Nat),
(↑x4 : Int) = (↑k1 : Int) ∧
k1 < n1 ∧
ptrE a17 fun (b6 o : Nat) =>
∃ (gf : FuncId),
∃ (caps : Array Value),
w'4.cell? { block := b6, off := o + k1 * (2 : Nat) } = some (Value.func (Fn.func gf) #[] caps) ∧
∃ (n2 : Int),
w'4.cell? { block := b6, off := o + k1 * (2 : Nat) + (1 : Nat) } = some (Value.int IntKind.i8 n2) ∧
∀ (b7 : Nat) (w19 : World),
New w'4 (Obj.cells #[Value.func (Fn.func gf) #[] caps, Value.int IntKind.i8 n2] (74 : Nat)) b7 w19 →
∃ (gf1 : FuncId),
∃ (caps1 : Array Value),
w19.cell? { block := b7, off := (0 : Nat) } = some (Value.func (Fn.func gf1) #[] caps1) ∧
∃ (n3 : Int),
w19.cell? { block := b2, off := (0 : Nat) } = some (Value.int IntKind.i8 n3) ∧
∃ (n4 : Int),
w19.cell? { block := b2, off := (1 : Nat) } = some (Value.int IntKind.i8 n4) ∧
∃ (n5 : Int),
w19.cell? { block := b2, off := (2 : Nat) } = some (Value.int IntKind.i8 n5) ∧
∃ (R : Bool → World → Prop),
DynB Tryd.prog gf1
(Array.map
(evalL
[((33 : Nat), Value.agg #[Value.int IntKind.i8 n3, Value.int IntKind.i8 n4, Value.int IntKind.i8 n5]),
((32 : Nat), Value.func (Fn.func gf1) #[] caps1), ((31 : Nat), Value.pointer (some { block := b7, off := (0 : Nat) })),
((10 : Nat), Value.pointer (some { block := b7, off := (0 : Nat) })),
((30 : Nat), Value.agg #[Value.func (Fn.func gf) #[] caps, Value.int IntKind.i8 n2]),
((29 : Nat), Value.pointer (some { block := b6, off := o + k1 * (2 : Nat) })),
((28 : Nat), Value.bool (decide ((↑x4 : Int) < (↑n1 : Int)))), ((27 : Nat), Value.int IntKind.i64 (↑x4 : Int)),
((27 : Nat), u (27 : Nat)), ((42 : Nat), u (42 : Nat)), ((41 : Nat), u (41 : Nat)), ((40 : Nat), u (40 : Nat)),
((39 : Nat), u (39 : Nat)), ((38 : Nat), u (38 : Nat)), ((37 : Nat), u (37 : Nat)), ((36 : Nat), u (36 : Nat)),
((35 : Nat), u (35 : Nat)), ((34 : Nat), u (34 : Nat)), ((33 : Nat), u (33 : Nat)), ((32 : Nat), u (32 : Nat)),
((31 : Nat), u (31 : Nat)), ((10 : Nat), u (10 : Nat)), ((30 : Nat), u (30 : Nat)), ((29 : Nat), u (29 : Nat)),
((28 : Nat), u (28 : Nat)), ((27 : Nat), Value.int IntKind.i64 (0 : Int)),
((26 : Nat), Value.int IntKind.i64 (↑n1 : Int)), ((25 : Nat), Value.slice a17 n1 c1),
((24 : Nat), Value.slice a' (n + (1 : Nat)) c'),
((23 : Nat), Value.slice (some { block := b5, off := (0 : Nat) }) (1 : Nat) (1 : Nat)),
((22 : Nat), Value.slice a14 n c), ((21 : Nat), Value.bool !b4), ((20 : Nat), Value.bool b4),
((19 : Nat), Value.pointer (some { block := b2, off := (1 : Nat) })), ((18 : Nat), Value.int IntKind.i8 x3),
((17 : Nat), Value.string x2.snd), ((8 : Nat), Value.string x2.snd), ((16 : Nat), Value.string x2.snd),
((15 : Nat), Value.int IntKind.i64 (↑x2.fst : Int)),
((14 : Nat), Value.func (Fn.func (101 : Nat)) #[] #[Value.pointer (some { block := x1, off := (0 : Nat) })]),
((13 : Nat), Value.string g), ((6 : Nat), Value.pointer (some { block := b3, off := (0 : Nat) })),
((5 : Nat), Value.pointer (some { block := b2, off := (0 : Nat) })),
((12 : Nat),
Value.agg #[Value.int IntKind.i8 (0 : Int), Value.int IntKind.i8 (0 : Int), Value.int IntKind.i8 (-1 : Int)]),
((4 : Nat), Value.pointer (some { block := b1, off := (0 : Nat) })),
((3 : Nat), Value.pointer (some { block := b, off := (0 : Nat) })),
((11 : Nat), Value.slice (some { block := x, off := (0 : Nat) }) (12 : Nat) (12 : Nat)),
((2 : Nat), Value.slice none (0 : Nat) (0 : Nat)), ((0 : Nat), Value.string g)])
#[Operand.tmp (33 : Nat)] ++
caps1)
w19 R ∧
∀ (b8 : Bool) (w'5 : World),
R b8 w'5 →
bcase b8
(∃ (a21 : Option Addr),
∃ (n6 : Nat),
∃ (c2 : Nat),
w'5.cell? { block := b1, off := (0 : Nat) } = some (Value.slice a21 n6 c2) ∧
∃ (a22 : Option Addr),
∃ (n7 : Nat),
∃ (c3 : Nat),
w'5.cell? { block := b1, off := (0 : Nat) } = some (Value.slice a22 n7 c3) ∧
InR IntKind.i64 ((↑n7 : Int) - (1 : Int)) ∧
∃ (n8 : Int),
w'5.cell? { block := b7, off := (1 : Nat) } = some (Value.int IntKind.i8 n8) ∧
∃ (k2 : Nat),
(↑n7 : Int) - (1 : Int) = (↑k2 : Int) ∧
k2 < n6 ∧
ptrE a21 fun (b9 o1 : Nat) =>
true = true ∧
(∃ (old : Value), w'5.cell? { block := b9, off := o1 + k2 } = some old) ∧
w'5.frozen? { block := b9, off := o1 + k2 } = false ∧
∀ (w110 : World),
Stored w'5 { block := b9, off := o1 + k2 } (Value.int IntKind.i8 n8) w110 →
∃ (n9 : Int),
w110.cell? { block := b2, off := (1 : Nat) } = some (Value.int IntKind.i8 n9) ∧
true = true ∧
(∃ (old : Value), w110.cell? { block := b2, off := (0 : Nat) } = some old) ∧
w110.frozen? { block := b2, off := (0 : Nat) } = false ∧
∀ (w111 : World),
Stored w110 { block := b2, off := (0 : Nat) } (Value.int IntKind.i8 n9) w111 →
true = true ∧
(∃ (old : Value), w111.cell? { block := b3, off := (0 : Nat) } = some old) ∧
w111.frozen? { block := b3, off := (0 : Nat) } = false ∧
∀ (w112 : World),
Stored w111 { block := b3, off := (0 : Nat) } (Value.bool false) w112 →
∃ (n10 : Int),
w112.cell? { block := b2, off := (0 : Nat) } = some (Value.int IntKind.i8 n10) ∧
∃ (n11 : Int),
w112.cell? { block := b2, off := (1 : Nat) } = some (Value.int IntKind.i8 n11) ∧
∃ (n12 : Int),
w112.cell? { block := b2, off := (2 : Nat) } = some (Value.int IntKind.i8 n12) ∧
∃ (g4 : Int × Int × Int),
#[Value.agg #[Value.int IntKind.i8 n10, Value.int IntKind.i8 n11, Value.int IntKind.i8 n12]] =
#[Value.agg #[Value.int IntKind.i8 g4.fst, Value.int IntKind.i8 g4.snd.fst, Value.int IntKind.i8 g4.snd.snd]] ∧
True ∧
∀ (x5 : Bool) (w'6 : World),
x5 = ruleF (7 : Nat) g4.fst g4.snd.fst g4.snd.snd ∧ Ext w112 w'6 →
bcase x5
(∃ (D' : Nat → Prop),
Step D W w'6 D' ∧
∃ (a27 : Option Addr),
∃ (c4 : Nat),
(D' = fun (q : Nat) =>
q = ptrB (Value.pointer (some { block := b1, off := (0 : Nat) })) ∨
q = ptrB (Value.pointer (some { block := b2, off := (0 : Nat) })) ∨
q = ptrB (Value.pointer (some { block := b3, off := (0 : Nat) })) ∨ blk a27 = some q) ∧
WhV w'6 (ptrB (Value.pointer (some { block := b, off := (0 : Nat) })))
(ptrB (Value.pointer (some { block := b1, off := (0 : Nat) })))
(ptrB (Value.pointer (some { block := b2, off := (0 : Nat) })))
(ptrB (Value.pointer (some { block := b3, off := (0 : Nat) }))) (0 : Nat) g (k + (1 : Nat)) a27 c4)
(∃ (n13 : Int),
w'6.cell? { block := b2, off := (0 : Nat) } = some (Value.int IntKind.i8 n13) ∧
true = true ∧
(∃ (old : Value), w'6.cell? { block := b2, off := (2 : Nat) } = some old) ∧
w'6.frozen? { block := b2, off := (2 : Nat) } = false ∧
∀ (w113 : World),
Stored w'6 { block := b2, off := (2 : Nat) } (Value.int IntKind.i8 n13) w113 →
∃ (D' : Nat → Prop),
Step D W w113 D' ∧
∃ (a28 : Option Addr),
∃ (c4 : Nat),
(D' = fun (q : Nat) =>
q = ptrB (Value.pointer (some { block := b1, off := (0 : Nat) })) ∨
q = ptrB (Value.pointer (some { block := b2, off := (0 : Nat) })) ∨
q = ptrB (Value.pointer (some { block := b3, off := (0 : Nat) })) ∨ blk a28 = some q) ∧
WhV w113 (ptrB (Value.pointer (some { block := b, off := (0 : Nat) })))
(ptrB (Value.pointer (some { block := b1, off := (0 : Nat) })))
(ptrB (Value.pointer (some { block := b2, off := (0 : Nat) })))
(ptrB (Value.pointer (some { block := b3, off := (0 : Nat) }))) (0 : Nat) g (k + (1 : Nat)) a28 c4))
(InR IntKind.i64 ((↑x4 : Int) + (1 : Int)) ∧
∃ (y : Nat),
Value.int IntKind.i64 ((↑x4 : Int) + (1 : Int)) = Value.int IntKind.i64 (↑y : Int) ∧
(y ≤ (12 : Nat) ∧
Ext w18 w'5 ∧
∃ (a21 : Int),
∃ (b9 : Int),
∃ (c2 : Int),
w18.heap[ptrB (Value.pointer (some { block := b2, off := (0 : Nat) }))]? =
some (Obj.cells #[Value.int IntKind.i8 a21, Value.int IntKind.i8 b9, Value.int IntKind.i8 c2] (71 : TypeId)) ∧
∀ (j : Nat), j < y → ruleF j a21 b9 c2 = false) ∧
(12 : Nat) - y < (12 : Nat) - x4))
(∃ (n2 : Int),
w'4.cell? { block := b2, off := (1 : Nat) } = some (Value.int IntKind.i8 n2) ∧
true = true ∧
(∃ (old : Value), w'4.cell? { block := b2, off := (0 : Nat) } = some old) ∧
w'4.frozen? { block := b2, off := (0 : Nat) } = false ∧
∀ (w19 : World),
Stored w'4 { block := b2, off := (0 : Nat) } (Value.int IntKind.i8 n2) w19 →
true = true ∧
(∃ (old : Value), w19.cell? { block := b3, off := (0 : Nat) } = some old) ∧
w19.frozen? { block := b3, off := (0 : Nat) } = false ∧
∀ (w110 : World),
Stored w19 { block := b3, off := (0 : Nat) } (Value.bool false) w110 →
∃ (n3 : Int),
w110.cell? { block := b2, off := (0 : Nat) } = some (Value.int IntKind.i8 n3) ∧
∃ (n4 : Int),
w110.cell? { block := b2, off := (1 : Nat) } = some (Value.int IntKind.i8 n4) ∧
∃ (n5 : Int),
w110.cell? { block := b2, off := (2 : Nat) } = some (Value.int IntKind.i8 n5) ∧
∃ (g4 : Int × Int × Int),
#[Value.agg #[Value.int IntKind.i8 n3, Value.int IntKind.i8 n4, Value.int IntKind.i8 n5]] =
#[Value.agg #[Value.int IntKind.i8 g4.fst, Value.int IntKind.i8 g4.snd.fst, Value.int IntKind.i8 g4.snd.snd]] ∧
True ∧
∀ (x5 : Bool) (w'5 : World),
x5 = ruleF (7 : Nat) g4.fst g4.snd.fst g4.snd.snd ∧ Ext w110 w'5 →
bcase x5
(∃ (D' : Nat → Prop),
Step D W w'5 D' ∧
∃ (a22 : Option Addr),
∃ (c2 : Nat),
(D' = fun (q : Nat) =>
q = ptrB (Value.pointer (some { block := b1, off := (0 : Nat) })) ∨
q = ptrB (Value.pointer (some { block := b2, off := (0 : Nat) })) ∨
q = ptrB (Value.pointer (some { block := b3, off := (0 : Nat) })) ∨ blk a22 = some q) ∧
WhV w'5 (ptrB (Value.pointer (some { block := b, off := (0 : Nat) })))
(ptrB (Value.pointer (some { block := b1, off := (0 : Nat) })))
(ptrB (Value.pointer (some { block := b2, off := (0 : Nat) })))
(ptrB (Value.pointer (some { block := b3, off := (0 : Nat) }))) (0 : Nat) g (k + (1 : Nat)) a22 c2)
(∃ (n6 : Int),
w'5.cell? { block := b2, off := (0 : Nat) } = some (Value.int IntKind.i8 n6) ∧
true = true ∧
(∃ (old : Value), w'5.cell? { block := b2, off := (2 : Nat) } = some old) ∧
w'5.frozen? { block := b2, off := (2 : Nat) } = false ∧
∀ (w111 : World),
Stored w'5 { block := b2, off := (2 : Nat) } (Value.int IntKind.i8 n6) w111 →
∃ (D' : Nat → Prop),
Step D W w111 D' ∧
∃ (a23 : Option Addr),
∃ (c2 : Nat),
(D' = fun (q : Nat) =>
q = ptrB (Value.pointer (some { block := b1, off := (0 : Nat) })) ∨
q = ptrB (Value.pointer (some { block := b2, off := (0 : Nat) })) ∨
q = ptrB (Value.pointer (some { block := b3, off := (0 : Nat) })) ∨ blk a23 = some q) ∧
WhV w111 (ptrB (Value.pointer (some { block := b, off := (0 : Nat) })))
(ptrB (Value.pointer (some { block := b1, off := (0 : Nat) })))
(ptrB (Value.pointer (some { block := b2, off := (0 : Nat) })))
(ptrB (Value.pointer (some { block := b3, off := (0 : Nat) }))) (0 : Nat) g (k + (1 : Nat)) a23 c2)))
(∃ (n : Int),
w16.cell? { block := b2, off := (1 : Nat) } = some (Value.int IntKind.i8 n) ∧
true = true ∧
(∃ (old : Value), w16.cell? { block := b2, off := (0 : Nat) } = some old) ∧
w16.frozen? { block := b2, off := (0 : Nat) } = false ∧
∀ (w17 : World),
Stored w16 { block := b2, off := (0 : Nat) } (Value.int IntKind.i8 n) w17 →
true = true ∧
(∃ (old : Value), w17.cell? { block := b3, off := (0 : Nat) } = some old) ∧
w17.frozen? { block := b3, off := (0 : Nat) } = false ∧
∀ (w18 : World),
Stored w17 { block := b3, off := (0 : Nat) } (Value.bool false) w18 →
∃ (n1 : Int),
w18.cell? { block := b2, off := (0 : Nat) } = some (Value.int IntKind.i8 n1) ∧
∃ (n2 : Int),
w18.cell? { block := b2, off := (1 : Nat) } = some (Value.int IntKind.i8 n2) ∧
∃ (n3 : Int),
w18.cell? { block := b2, off := (2 : Nat) } = some (Value.int IntKind.i8 n3) ∧
∃ (g4 : Int × Int × Int),
#[Value.agg #[Value.int IntKind.i8 n1, Value.int IntKind.i8 n2, Value.int IntKind.i8 n3]] =
#[Value.agg #[Value.int IntKind.i8 g4.fst, Value.int IntKind.i8 g4.snd.fst, Value.int IntKind.i8 g4.snd.snd]] ∧
True ∧
∀ (x4 : Bool) (w'3 : World),
x4 = ruleF (7 : Nat) g4.fst g4.snd.fst g4.snd.snd ∧ Ext w18 w'3 →
bcase x4
(∃ (D' : Nat → Prop),
Step D W w'3 D' ∧
∃ (a17 : Option Addr),
∃ (c : Nat),
(D' = fun (q : Nat) =>
q = ptrB (Value.pointer (some { block := b1, off := (0 : Nat) })) ∨
q = ptrB (Value.pointer (some { block := b2, off := (0 : Nat) })) ∨
q = ptrB (Value.pointer (some { block := b3, off := (0 : Nat) })) ∨ blk a17 = some q) ∧
WhV w'3 (ptrB (Value.pointer (some { block := b, off := (0 : Nat) })))
(ptrB (Value.pointer (some { block := b1, off := (0 : Nat) })))
(ptrB (Value.pointer (some { block := b2, off := (0 : Nat) })))
(ptrB (Value.pointer (some { block := b3, off := (0 : Nat) }))) (0 : Nat) g (k + (1 : Nat)) a17 c)
(∃ (n4 : Int),
w'3.cell? { block := b2, off := (0 : Nat) } = some (Value.int IntKind.i8 n4) ∧
true = true ∧
(∃ (old : Value), w'3.cell? { block := b2, off := (2 : Nat) } = some old) ∧
w'3.frozen? { block := b2, off := (2 : Nat) } = false ∧
∀ (w19 : World),
Stored w'3 { block := b2, off := (2 : Nat) } (Value.int IntKind.i8 n4) w19 →
∃ (D' : Nat → Prop),
Step D W w19 D' ∧
∃ (a18 : Option Addr),
∃ (c : Nat),
(D' = fun (q : Nat) =>
q = ptrB (Value.pointer (some { block := b1, off := (0 : Nat) })) ∨
q = ptrB (Value.pointer (some { block := b2, off := (0 : Nat) })) ∨
q = ptrB (Value.pointer (some { block := b3, off := (0 : Nat) })) ∨ blk a18 = some q) ∧
WhV w19 (ptrB (Value.pointer (some { block := b, off := (0 : Nat) })))
(ptrB (Value.pointer (some { block := b1, off := (0 : Nat) })))
(ptrB (Value.pointer (some { block := b2, off := (0 : Nat) })))
(ptrB (Value.pointer (some { block := b3, off := (0 : Nat) }))) (0 : Nat) g (k + (1 : Nat)) a18 c))) ∧
(∀ (D : Nat → Prop) (W : World),
(∃ (a9 : Option Addr),
∃ (c : Nat),
(D = fun (q : Nat) =>
q = ptrB (Value.pointer (some { block := b1, off := (0 : Nat) })) ∨
q = ptrB (Value.pointer (some { block := b2, off := (0 : Nat) })) ∨
q = ptrB (Value.pointer (some { block := b3, off := (0 : Nat) })) ∨ blk a9 = some q) ∧
WhV W (ptrB (Value.pointer (some { block := b, off := (0 : Nat) })))
(ptrB (Value.pointer (some { block := b1, off := (0 : Nat) })))
(ptrB (Value.pointer (some { block := b2, off := (0 : Nat) })))
(ptrB (Value.pointer (some { block := b3, off := (0 : Nat) }))) (0 : Nat) g (lenX xs) a9 c) →
Mid w'1 D0 D W →
∃ (b4 : Bool),
W.cell? { block := b3, off := (0 : Nat) } = some (Value.bool b4) ∧
bcase b4
(∀ (w2 : World),
Turn w.heap.size W w2 →
∃ (x2 : Option Addr × Nat × Nat),
Value.slice none (0 : Nat) (0 : Nat) = Value.slice x2.fst x2.snd.fst x2.snd.snd ∧
x2.snd.fst = (whereL g).length ∧
Made w w2 (25 : TypeId) (1 : Nat) x2.fst x2.snd.fst (List.map (Value.int IntKind.i8) (whereL g)) x2.snd.snd)
(∃ (n : Int),
W.cell? { block := b2, off := (0 : Nat) } = some (Value.int IntKind.i8 n) ∧
bcase (n == (2 : Int))
(∃ (a11 : Option Addr),
∃ (n1 : Nat),
∃ (c : Nat),
W.cell? { block := b1, off := (0 : Nat) } = some (Value.slice a11 n1 c) ∧
∀ (b5 : Nat) (w16 : World),
New W (Obj.cells #[Value.int IntKind.i8 (2 : Int)] (25 : Nat)) b5 w16 →
∃ (a' : Option Addr),
∃ (c' : Nat),
∃ (w'2 : World),
AppRun Tryd.prog #[(22 : Nat), (22 : Nat)] (22 : Nat) (Value.slice a11 n1 c)
(Value.slice (some { block := b5, off := (0 : Nat) }) (1 : Nat) (1 : Nat)) w16 a' (n1 + (1 : Nat)) c' w'2 ∧
KO w16 w'2 ∧
∀ (w2 : World),
Turn w.heap.size w'2 w2 →
∃ (x2 : Option Addr × Nat × Nat),
Value.slice a' (n1 + (1 : Nat)) c' = Value.slice x2.fst x2.snd.fst x2.snd.snd ∧
x2.snd.fst = (whereL g).length ∧
Made w w2 (25 : TypeId) (1 : Nat) x2.fst x2.snd.fst (List.map (Value.int IntKind.i8) (whereL g)) x2.snd.snd)
(∃ (a11 : Option Addr),
∃ (n1 : Nat),
∃ (c : Nat),
W.cell? { block := b1, off := (0 : Nat) } = some (Value.slice a11 n1 c) ∧
∀ (b5 : Nat) (w16 : World),
New W (Obj.cells #[Value.int IntKind.i8 (0 : Int)] (25 : Nat)) b5 w16 →
∃ (a' : Option Addr),
∃ (c' : Nat),
∃ (w'2 : World),
AppRun Tryd.prog #[(22 : Nat), (22 : Nat)] (22 : Nat) (Value.slice a11 n1 c)
(Value.slice (some { block := b5, off := (0 : Nat) }) (1 : Nat) (1 : Nat)) w16 a' (n1 + (1 : Nat)) c' w'2 ∧
KO w16 w'2 ∧
∀ (w2 : World),
Turn w.heap.size w'2 w2 →
∃ (x2 : Option Addr × Nat × Nat),
Value.slice a' (n1 + (1 : Nat)) c' = Value.slice x2.fst x2.snd.fst x2.snd.snd ∧
x2.snd.fst = (whereL g).length ∧
Made w w2 (25 : TypeId) (1 : Nat) x2.fst x2.snd.fst (List.map (Value.int IntKind.i8) (whereL g)) x2.snd.snd))) ∧
True) :
    ((sSL .i8 25 whereL)).Ok Tryd.prog 20 :=
  ok_of_vc (sSL .i8 25 whereL) annWhere spWhere (fun _ _ => rfl) (fun _ _ => rfl) hsp Tryd.func20 rfl (n := 1) (fun _ => rfl) (by kernel_rfl) (vcast (by kernel_rfl) h)

end Go.Proofs.YthpjkgoahneldaaDoor
end

section
/-
  Verification conditions, printed by a program out of the specifications beside this text: each theorem says that the condition suffices. (Lean's kernel compares the printed condition with what 'wpE' computes.)
-/
set_option linter.unusedVariables false
namespace Go.Proofs.YthpjkgoahneldaaDoor
open Go Go.RowKit Vc Ut Tb Cl

set_option maxRecDepth 1000000 in
theorem itPc_vc (hsp : SpecsOk Tryd.prog spItPc) (h : ∀ (g : ByteArray × Nat) (i : ItG) (W : World),
W.heap[g.snd]? = some (Obj.cells #[Value.string g.fst] (9 : TypeId)) ∧ U8 W ∧ g.fst.size ≤ (67108864 : Nat) →
ItPre (List.map encPc (pcL g.fst)) (fun (q : Nat) => q = g.snd ∨ q = (0 : Nat) ∨ q = (1 : Nat)) i W →
(∃ (x : Nat × (Nat → Prop)),
Value.int IntKind.i64 (0 : Int) = Value.int IntKind.i64 (↑(bp g.fst x.fst) : Int) ∧
x.fst ≤ ncl g.fst ∧ i.J x.fst x.snd W ∧ Mid W i.D0 x.snd W) ∧
∀ (u : Nat → Value) (x : Nat × (Nat → Prop)) (w' : World),
x.fst ≤ ncl g.fst ∧ i.J x.fst x.snd w' ∧ Mid W i.D0 x.snd w' →
∃ (s : ByteArray),
w'.cell? { block := g.snd, off := (0 : Nat) } = some (Value.string s) ∧
bcase (decide ((↑(bp g.fst x.fst) : Int) < (↑s.size : Int)))
(∃ (s1 : ByteArray),
w'.cell? { block := g.snd, off := (0 : Nat) } = some (Value.string s1) ∧
∃ (k : Nat),
(↑(bp g.fst x.fst) : Int) = (↑k : Int) ∧
k ≤ s1.size ∧
s1.size ≤ s1.size ∧
∃ (g1 : ByteArray),
#[Value.string (s1.extract k s1.size)] = #[Value.string g1] ∧
(U8 w' ∧ g1.size ≤ (67108864 : Nat)) ∧
∀ (x1 : Nat) (w'1 : World),
x1 = nextL g1 ∧ Ext w' w'1 →
∃ (s2 : ByteArray),
w'1.cell? { block := g.snd, off := (0 : Nat) } = some (Value.string s2) ∧
InR IntKind.i64 ((↑(bp g.fst x.fst) : Int) + (↑x1 : Int)) ∧
∃ (k1 : Nat),
(↑(bp g.fst x.fst) : Int) = (↑k1 : Int) ∧
∃ (k2 : Nat),
(↑(bp g.fst x.fst) : Int) + (↑x1 : Int) = (↑k2 : Int) ∧
k1 ≤ k2 ∧
k2 ≤ s2.size ∧
i.l = i.l ∧
∃ (q : Nat × (Nat → Prop)),
[Value.int IntKind.i64 (↑(bp g.fst x.fst) : Int), Value.string (s2.extract k1 k2)] =
(List.map encPc (pcL g.fst)).getD q.fst [] ∧
(q.fst < (List.map encPc (pcL g.fst)).length ∧ i.J q.fst q.snd w'1 ∧ Mid W i.D0 q.snd w'1) ∧
∀ (b : Bool) (w'2 : World),
(∃ (D' : Nat → Prop), Step q.snd w'1 w'2 D' ∧ (b = true → i.J (q.fst + (1 : Nat)) D' w'2) ∧ (b = false → i.Jx D' w'2)) →
bcase (!b) (ItPost (List.map encPc (pcL g.fst)) i W w'2)
(InR IntKind.i64 ((↑(bp g.fst x.fst) : Int) + (↑x1 : Int)) ∧
∃ (y : Nat × (Nat → Prop)),
Value.int IntKind.i64 ((↑(bp g.fst x.fst) : Int) + (↑x1 : Int)) = Value.int IntKind.i64 (↑(bp g.fst y.fst) : Int) ∧
(y.fst ≤ ncl g.fst ∧ i.J y.fst y.snd w'2 ∧ Mid W i.D0 y.snd w'2) ∧ ncl g.fst - y.fst < ncl g.fst - x.fst))
(ItPost (List.map encPc (pcL g.fst)) i W w')) :
    (itPc).Ok Tryd.prog 101 :=
  iter_of_vc itPc annItPc spItPc (fun _ _ _ => rfl) (fun _ _ _ => rfl) hsp (enters_of Tryd.func101 (by kernel_rfl) rfl) Tryd.func101 rfl (n := 1) (fun _ => rfl) (by kernel_rfl) (vcast (by kernel_rfl) h)

set_option maxRecDepth 1000000 in
theorem cpieces_vc (hsp : SpecsOk Tryd.prog []) (h : ∀ (g : ByteArray) (w : World),
True →
∀ (b : Nat) (w1 : World),
New w (Obj.cells #[Value.string g] (9 : Nat)) b w1 →
∃ (x : Nat),
Value.func (Fn.func (101 : Nat)) #[] #[Value.pointer (some { block := b, off := (0 : Nat) })] =
Value.func (Fn.func (101 : Nat)) #[] #[Value.pointer (some { block := x, off := (0 : Nat) })] ∧
w.heap.size ≤ x ∧ w1.heap[x]? = some (Obj.cells #[Value.string g] (9 : TypeId)) ∧ Ext w w1) :
    ((sIter 101)).Ok Tryd.prog 65 :=
  ok_of_vc (sIter 101) (annOf []) [] (fun _ _ => rfl) (fun _ _ => rfl) hsp Tryd.func65 rfl (n := 1) (fun _ => rfl) (by kernel_rfl) (vcast (by kernel_rfl) h)

set_option maxRecDepth 1000000 in
theorem call_vc (hsp : SpecsOk Tryd.prog spAllC) (h : ∀ (g : ByteArray) (w : World),
True →
∃ (g1 : ByteArray),
#[Value.string g] = #[Value.string g1] ∧
True ∧
∀ (x : Nat) (w' : World),
w.heap.size ≤ x ∧ w'.heap[x]? = some (Obj.cells #[Value.string g1] (9 : TypeId)) ∧ Ext w w' →
∃ (x1 : Nat),
Value.func (Fn.func (101 : Nat)) #[] #[Value.pointer (some { block := x, off := (0 : Nat) })] =
Value.func (Fn.func (101 : Nat)) #[] #[Value.pointer (some { block := x1, off := (0 : Nat) })] ∧
w.heap.size ≤ x1 ∧ w'.heap[x1]? = some (Obj.cells #[Value.string g] (9 : TypeId)) ∧ Ext w w') :
    ((sIter 101)).Ok Tryd.prog 55 :=
  ok_of_vc (sIter 101) (annOf spAllC) spAllC (fun _ _ => rfl) (fun _ _ => rfl) hsp Tryd.func55 rfl (n := 1) (fun _ => rfl) (by kernel_rfl) (vcast (by kernel_rfl) h)

set_option maxRecDepth 1000000 in
theorem cis_vc (hsp : SpecsOk Tryd.prog spAllC) (h : ∀ (g : ByteArray × Int) (w : World),
U8 w ∧ g.fst.size ≤ (67108864 : Nat) →
∀ (b : Nat) (w1 : World),
New w (Obj.cells #[Value.int IntKind.i64 g.snd] (3 : Nat)) b w1 →
∀ (b1 : Nat) (w11 : World),
New w1 (Obj.cells #[Value.bool false] (4 : Nat)) b1 w11 →
∃ (g1 : ByteArray),
#[Value.string g.fst] = #[Value.string g1] ∧
True ∧
∀ (x : Nat) (w' : World),
w11.heap.size ≤ x ∧ w'.heap[x]? = some (Obj.cells #[Value.string g1] (9 : TypeId)) ∧ Ext w11 w' →
∃ (xs : List (Nat × ByteArray)),
∃ (C : Nat → Prop),
∃ (D0 : Nat → Prop),
IterAt Tryd.prog (Value.func (Fn.func (101 : Nat)) #[] #[Value.pointer (some { block := x, off := (0 : Nat) })])
(List.map encPc xs) C w' ∧
DomOk w' C D0 ∧
(D0 = ones [ptrB (Value.pointer (some { block := b1, off := (0 : Nat) }))] ∧
(∀ (j : Nat), j < (0 : Nat) → (↑(bp g.fst j) : Int) < g.snd) ∧
∃ (v : Bool),
w'.heap[ptrB (Value.pointer (some { block := b1, off := (0 : Nat) }))]? =
some (Obj.cells #[Value.bool v] (4 : TypeId))) ∧
(Stab w'.heap.size fun (k : Nat) (D : Nat → Prop) (W : World) =>
D = ones [ptrB (Value.pointer (some { block := b1, off := (0 : Nat) }))] ∧
(∀ (j : Nat), j < k → (↑(bp g.fst j) : Int) < g.snd) ∧
∃ (v : Bool),
W.heap[ptrB (Value.pointer (some { block := b1, off := (0 : Nat) }))]? =
some (Obj.cells #[Value.bool v] (4 : TypeId))) ∧
(∀ (x1 : Exit),
Stab w'.heap.size fun (x : Nat) (D : Nat → Prop) (W : World) =>
D = ones [ptrB (Value.pointer (some { block := b1, off := (0 : Nat) }))] ∧
W.heap[ptrB (Value.pointer (some { block := b1, off := (0 : Nat) }))]? =
some (Obj.cells #[Value.bool (isB g.fst g.snd)] (4 : TypeId))) ∧
(∀ (k : Nat) (x1 : Nat × ByteArray) (D : Nat → Prop) (W : World),
xs[k]? = some x1 →
(D = ones [ptrB (Value.pointer (some { block := b1, off := (0 : Nat) }))] ∧
(∀ (j : Nat), j < k → (↑(bp g.fst j) : Int) < g.snd) ∧
∃ (v : Bool),
W.heap[ptrB (Value.pointer (some { block := b1, off := (0 : Nat) }))]? =
some (Obj.cells #[Value.bool v] (4 : TypeId))) →
Mid w' D0 D W →
∃ (n : Int),
W.cell? { block := b, off := (0 : Nat) } = some (Value.int IntKind.i64 n) ∧
bcase (decide ((↑x1.fst : Int) ≥ n))
(∃ (n1 : Int),
W.cell? { block := b, off := (0 : Nat) } = some (Value.int IntKind.i64 n1) ∧
true = true ∧
(∃ (old : Value), W.cell? { block := b1, off := (0 : Nat) } = some old) ∧
W.frozen? { block := b1, off := (0 : Nat) } = false ∧
∀ (w12 : World),
Stored W { block := b1, off := (0 : Nat) } (Value.bool ((↑x1.fst : Int) == n1)) w12 →
∃ (D' : Nat → Prop),
Step D W w12 D' ∧
D' = ones [ptrB (Value.pointer (some { block := b1, off := (0 : Nat) }))] ∧
w12.heap[ptrB (Value.pointer (some { block := b1, off := (0 : Nat) }))]? =
some (Obj.cells #[Value.bool (isB g.fst g.snd)] (4 : TypeId)))
(∃ (D' : Nat → Prop),
Step D W W D' ∧
D' = ones [ptrB (Value.pointer (some { block := b1, off := (0 : Nat) }))] ∧
(∀ (j : Nat), j < k + (1 : Nat) → (↑(bp g.fst j) : Int) < g.snd) ∧
∃ (v : Bool),
W.heap[ptrB (Value.pointer (some { block := b1, off := (0 : Nat) }))]? =
some (Obj.cells #[Value.bool v] (4 : TypeId)))) ∧
(∀ (D : Nat → Prop) (W : World),
(D = ones [ptrB (Value.pointer (some { block := b1, off := (0 : Nat) }))] ∧
(∀ (j : Nat), j < lenX xs → (↑(bp g.fst j) : Int) < g.snd) ∧
∃ (v : Bool),
W.heap[ptrB (Value.pointer (some { block := b1, off := (0 : Nat) }))]? =
some (Obj.cells #[Value.bool v] (4 : TypeId))) →
Mid w' D0 D W →
∃ (n : Int),
W.cell? { block := b, off := (0 : Nat) } = some (Value.int IntKind.i64 n) ∧
true = true ∧
(∃ (old : Value), W.cell? { block := b1, off := (0 : Nat) } = some old) ∧
W.frozen? { block := b1, off := (0 : Nat) } = false ∧
∀ (w12 : World),
Stored W { block := b1, off := (0 : Nat) } (Value.bool (n == (↑g.fst.size : Int))) w12 →
∃ (b2 : Bool),
w12.cell? { block := b1, off := (0 : Nat) } = some (Value.bool b2) ∧
∀ (w2 : World),
Turn w.heap.size w12 w2 → ∃ (x1 : Bool), Value.bool b2 = Value.bool x1 ∧ x1 = isB g.fst g.snd ∧ Ext w w2) ∧
∀ (D : Nat → Prop) (W : World),
D = ones [ptrB (Value.pointer (some { block := b1, off := (0 : Nat) }))] ∧
W.heap[ptrB (Value.pointer (some { block := b1, off := (0 : Nat) }))]? =
some (Obj.cells #[Value.bool (isB g.fst g.snd)] (4 : TypeId)) →
Mid w' D0 D W →
∃ (b2 : Bool),
W.cell? { block := b1, off := (0 : Nat) } = some (Value.bool b2) ∧
∀ (w2 : World), Turn w.heap.size W w2 → ∃ (x1 : Bool), Value.bool b2 = Value.bool x1 ∧ x1 = isB g.fst g.snd ∧ Ext w w2) :
    (sIsB).Ok Tryd.prog 28 :=
  ok_of_vc sIsB annIsC spAllC (fun _ _ => rfl) (fun _ _ => rfl) hsp Tryd.func28 rfl (n := 2) (fun _ => rfl) (by kernel_rfl) (vcast (by kernel_rfl) h)

end Go.Proofs.YthpjkgoahneldaaDoor
end
