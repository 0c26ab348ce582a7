/-
  Verification conditions, printed by a program out of the specifications beside this text: each theorem says that the condition suffices. (Lean's kernel compares the printed condition with what 'wpE' computes.)
-/
import Derived.Test.YthkcphnkllnfcaaDoorSpF
import Derived.Test.YthkcphnkllnfcaaDoorProg
import Derived.KernelRfl
set_option linter.unusedVariables false
namespace Go.Proofs.YthkcphnkllnfcaaDoor
open Go Go.RowKit Vc Ut

set_option maxRecDepth 1000000 in
theorem lawGoes_vc (hsp : SpecsOk Tryd.prog spGoes) (h : ∀ (g : GSI) (w : World),
U8 w ∧ g.s.size ≤ (1048576 : Nat) →
∀ (b : Nat) (w1 : World),
New w (Obj.cells #[Value.bool false] (4 : Nat)) b w1 →
∃ (g1 : ByteArray),
#[Value.string g.s] = #[Value.string g1] ∧
(U8 w1 ∧ g1.size ≤ (67108864 : Nat)) ∧
∀ (x : Option Addr × Nat × Nat) (w' : World),
x.snd.fst = (allN g1).length ∧
Made w1 w' (39 : TypeId) (4 : Nat) x.fst x.snd.fst (List.flatMap (oneV g1) (allN g1)) x.snd.snd →
∀ (b1 : Nat) (w11 : World),
New w' (Obj.cells #[Value.slice none (0 : Nat) (0 : Nat)] (32 : Nat)) b1 w11 →
true = true ∧
(∃ (old : Value), w11.cell? { block := b1, off := (0 : Nat) } = some old) ∧
w11.frozen? { block := b1, off := (0 : Nat) } = false ∧
∀ (w12 : World),
Stored w11 { block := b1, off := (0 : Nat) } (Value.slice x.fst x.snd.fst x.snd.snd) w12 →
∃ (g2 : ByteArray),
#[Value.string g.s] = #[Value.string g2] ∧
(U8 w12 ∧ g2.size ≤ (67108864 : Nat)) ∧
∀ (x1 : Option Addr × Nat × Nat) (w'1 : World),
x1.snd.fst = (backN g2).length ∧
Made w12 w'1 (39 : TypeId) (4 : Nat) x1.fst x1.snd.fst (List.flatMap (oneV g2) (backN g2)) x1.snd.snd →
∀ (b2 : Nat) (w13 : World),
New w'1 (Obj.cells #[Value.slice none (0 : Nat) (0 : Nat)] (32 : Nat)) b2 w13 →
true = true ∧
(∃ (old : Value), w13.cell? { block := b2, off := (0 : Nat) } = some old) ∧
w13.frozen? { block := b2, off := (0 : Nat) } = false ∧
∀ (w14 : World),
Stored w13 { block := b2, off := (0 : Nat) } (Value.slice x1.fst x1.snd.fst x1.snd.snd) w14 →
∃ (a8 : Option Addr),
∃ (n : Nat),
∃ (c : Nat),
w14.cell? { block := b1, off := (0 : Nat) } = some (Value.slice a8 n c) ∧
∀ (b3 : Nat) (w15 : World),
New w14 (Obj.cells #[Value.int IntKind.i64 (0 : Int)] (3 : Nat)) b3 w15 →
true = true ∧
(∃ (old : Value), w15.cell? { block := b3, off := (0 : Nat) } = some old) ∧
w15.frozen? { block := b3, off := (0 : Nat) } = false ∧
∀ (w16 : World),
Stored w15 { block := b3, off := (0 : Nat) }
(Value.int IntKind.i64
(if (↑n : Int) < if (0 : Int) > g.i then (0 : Int) else g.i then (↑n : Int)
else if (0 : Int) > g.i then (0 : Int) else g.i))
w16 →
∃ (g3 : ByteArray),
#[Value.string g.s] = #[Value.string g3] ∧
True ∧
∀ (x2 : Nat) (w'2 : World),
w16.heap.size ≤ x2 ∧ w'2.heap[x2]? = some (Obj.cells #[Value.string g3] (9 : TypeId)) ∧ Ext w16 w'2 →
∀ (b4 : Nat) (w17 : World),
New w'2 (Obj.cells #[Value.nilFunc] (35 : Nat)) b4 w17 →
true = true ∧
(∃ (old : Value), w17.cell? { block := b4, off := (0 : Nat) } = some old) ∧
w17.frozen? { block := b4, off := (0 : Nat) } = false ∧
∀ (w18 : World),
Stored w17 { block := b4, off := (0 : Nat) }
(Value.func (Fn.func (54 : Nat)) #[] #[Value.pointer (some { block := x2, off := (0 : Nat) })]) w18 →
∃ (g4 : ByteArray),
#[Value.string g.s] = #[Value.string g4] ∧
True ∧
∀ (x3 : Nat) (w'3 : World),
w18.heap.size ≤ x3 ∧ w'3.heap[x3]? = some (Obj.cells #[Value.string g4] (9 : TypeId)) ∧ Ext w18 w'3 →
∀ (b5 : Nat) (w19 : World),
New w'3 (Obj.cells #[Value.nilFunc] (35 : Nat)) b5 w19 →
true = true ∧
(∃ (old : Value), w19.cell? { block := b5, off := (0 : Nat) } = some old) ∧
w19.frozen? { block := b5, off := (0 : Nat) } = false ∧
∀ (w110 : World),
Stored w19 { block := b5, off := (0 : Nat) }
(Value.func (Fn.func (55 : Nat)) #[] #[Value.pointer (some { block := x3, off := (0 : Nat) })]) w110 →
(∃ (v : Value),
w110.cell? { block := b4, off := (0 : Nat) } = some v ∧
∃ (a17 : Option Addr),
∃ (n1 : Nat),
∃ (c1 : Nat),
w110.cell? { block := b1, off := (0 : Nat) } = some (Value.slice a17 n1 c1) ∧
∃ (n2 : Int),
w110.cell? { block := b3, off := (0 : Nat) } = some (Value.int IntKind.i64 n2) ∧
∃ (g5 : GGoes),
#[v, Value.slice a17 n1 c1, Value.int IntKind.i64 n2] =
#[Value.func (Fn.func g5.f) #[] #[Value.pointer (some { block := g5.b, off := (0 : Nat) })],
Value.slice g5.a g5.l.length g5.c, Value.int IntKind.i64 g5.most] ∧
(IterAt Tryd.prog (Value.func (Fn.func g5.f) #[] #[Value.pointer (some { block := g5.b, off := (0 : Nat) })])
(List.map encIt (List.map (atN g5.s) g5.l)) g5.C w110 ∧
(∀ (q : Nat), g5.C q → q < w110.heap.size) ∧
CellsAt w110 g5.a (List.flatMap (oneV g5.s) g5.l) ∧ g5.l.length ≤ (67108864 : Nat)) ∧
∀ (x4 : Unit) (w'4 : World),
Ext w110 w'4 →
∃ (v1 : Value),
w'4.cell? { block := b5, off := (0 : Nat) } = some v1 ∧
∃ (a19 : Option Addr),
∃ (n3 : Nat),
∃ (c2 : Nat),
w'4.cell? { block := b2, off := (0 : Nat) } = some (Value.slice a19 n3 c2) ∧
∃ (n4 : Int),
w'4.cell? { block := b3, off := (0 : Nat) } = some (Value.int IntKind.i64 n4) ∧
∃ (g6 : GGoes),
#[v1, Value.slice a19 n3 c2, Value.int IntKind.i64 n4] =
#[Value.func (Fn.func g6.f) #[] #[Value.pointer (some { block := g6.b, off := (0 : Nat) })],
Value.slice g6.a g6.l.length g6.c, Value.int IntKind.i64 g6.most] ∧
(IterAt Tryd.prog (Value.func (Fn.func g6.f) #[] #[Value.pointer (some { block := g6.b, off := (0 : Nat) })])
(List.map encIt (List.map (atN g6.s) g6.l)) g6.C w'4 ∧
(∀ (q : Nat), g6.C q → q < w'4.heap.size) ∧
CellsAt w'4 g6.a (List.flatMap (oneV g6.s) g6.l) ∧ g6.l.length ≤ (67108864 : Nat)) ∧
∀ (x5 : Unit) (w'5 : World),
Ext w'4 w'5 →
∃ (v2 : Value),
w'5.cell? { block := b4, off := (0 : Nat) } = some v2 ∧
∃ (a21 : Option Addr),
∃ (n5 : Nat),
∃ (c3 : Nat),
w'5.cell? { block := b1, off := (0 : Nat) } = some (Value.slice a21 n5 c3) ∧
∃ (g7 : GGoes),
#[v2, Value.slice a21 n5 c3, Value.int IntKind.i64 (-1 : Int)] =
#[Value.func (Fn.func g7.f) #[] #[Value.pointer (some { block := g7.b, off := (0 : Nat) })],
Value.slice g7.a g7.l.length g7.c, Value.int IntKind.i64 g7.most] ∧
(IterAt Tryd.prog (Value.func (Fn.func g7.f) #[] #[Value.pointer (some { block := g7.b, off := (0 : Nat) })])
(List.map encIt (List.map (atN g7.s) g7.l)) g7.C w'5 ∧
(∀ (q : Nat), g7.C q → q < w'5.heap.size) ∧
CellsAt w'5 g7.a (List.flatMap (oneV g7.s) g7.l) ∧ g7.l.length ≤ (67108864 : Nat)) ∧
∀ (x6 : Unit) (w'6 : World),
Ext w'5 w'6 →
∃ (v3 : Value),
w'6.cell? { block := b5, off := (0 : Nat) } = some v3 ∧
∃ (a23 : Option Addr),
∃ (n6 : Nat),
∃ (c4 : Nat),
w'6.cell? { block := b2, off := (0 : Nat) } = some (Value.slice a23 n6 c4) ∧
∃ (g8 : GGoes),
#[v3, Value.slice a23 n6 c4, Value.int IntKind.i64 (-1 : Int)] =
#[Value.func (Fn.func g8.f) #[] #[Value.pointer (some { block := g8.b, off := (0 : Nat) })],
Value.slice g8.a g8.l.length g8.c, Value.int IntKind.i64 g8.most] ∧
(IterAt Tryd.prog (Value.func (Fn.func g8.f) #[] #[Value.pointer (some { block := g8.b, off := (0 : Nat) })])
(List.map encIt (List.map (atN g8.s) g8.l)) g8.C w'6 ∧
(∀ (q : Nat), g8.C q → q < w'6.heap.size) ∧
CellsAt w'6 g8.a (List.flatMap (oneV g8.s) g8.l) ∧ g8.l.length ≤ (67108864 : Nat)) ∧
∀ (x7 : Unit) (w'7 : World), Ext w'6 w'7 → ∃ (c5 : Unit), Value.bool false = Value.bool false ∧ Ext w110 w'7) ∧
∀ (u : Nat → Value) (c1 : Unit) (w'4 : World),
Ext w110 w'4 →
∀ (b6 : Nat) (w111 : World),
New w'4 (Obj.cells #[Value.int IntKind.i64 (0 : Int)] (3 : Nat)) b6 w111 →
true = true ∧
(∃ (old : Value), w111.cell? { block := b6, off := (0 : Nat) } = some old) ∧
w111.frozen? { block := b6, off := (0 : Nat) } = false ∧
∀ (w112 : World),
Stored w111 { block := b6, off := (0 : Nat) } (Value.int IntKind.i64 (0 : Int)) w112 →
∃ (v : Value),
w112.cell? { block := b4, off := (0 : Nat) } = some v ∧
∃ (xs : List (Nat × Int)),
∃ (C : Nat → Prop),
∃ (D0 : Nat → Prop),
IterAt Tryd.prog v (List.map encIt xs) C w112 ∧
DomOk w112 C D0 ∧
(D0 =
ones
[ptrB (Value.pointer (some { block := b6, off := (0 : Nat) })),
ptrB (Value.pointer (some { block := b, off := (0 : Nat) }))] ∧
w112.heap[ptrB (Value.pointer (some { block := b6, off := (0 : Nat) }))]? =
some (Obj.cells #[Value.int IntKind.i64 (0 : Int)] (3 : TypeId)) ∧
∃ (v1 : Bool),
w112.heap[ptrB (Value.pointer (some { block := b, off := (0 : Nat) }))]? =
some (Obj.cells #[Value.bool v1] (4 : TypeId))) ∧
(Stab w112.heap.size fun (k : Nat) (D : Nat → Prop) (W : World) =>
D =
ones
[ptrB (Value.pointer (some { block := b6, off := (0 : Nat) })),
ptrB (Value.pointer (some { block := b, off := (0 : Nat) }))] ∧
W.heap[ptrB (Value.pointer (some { block := b6, off := (0 : Nat) }))]? =
some (Obj.cells #[Value.int IntKind.i64 (↑k : Int)] (3 : TypeId)) ∧
∃ (v : Bool),
W.heap[ptrB (Value.pointer (some { block := b, off := (0 : Nat) }))]? = some (Obj.cells #[Value.bool v] (4 : TypeId))) ∧
(∀ (x4 : Exit), Stab w112.heap.size fun (x : Nat) (D : Nat → Prop) (W : World) => (1 : Nat) = (0 : Nat)) ∧
(∀ (k : Nat) (x4 : Nat × Int) (D : Nat → Prop) (W : World),
xs[k]? = some x4 →
(D =
ones
[ptrB (Value.pointer (some { block := b6, off := (0 : Nat) })),
ptrB (Value.pointer (some { block := b, off := (0 : Nat) }))] ∧
W.heap[ptrB (Value.pointer (some { block := b6, off := (0 : Nat) }))]? =
some (Obj.cells #[Value.int IntKind.i64 (↑k : Int)] (3 : TypeId)) ∧
∃ (v1 : Bool),
W.heap[ptrB (Value.pointer (some { block := b, off := (0 : Nat) }))]? =
some (Obj.cells #[Value.bool v1] (4 : TypeId))) →
Mid w112 D0 D W →
(∃ (n1 : Int),
W.cell? { block := b6, off := (0 : Nat) } = some (Value.int IntKind.i64 n1) ∧
∃ (n2 : Int),
W.cell? { block := b3, off := (0 : Nat) } = some (Value.int IntKind.i64 n2) ∧
bcase (n1 == n2)
(∃ (v1 : Value),
W.cell? { block := b4, off := (0 : Nat) } = some v1 ∧
∃ (a23 : Option Addr),
∃ (n3 : Nat),
∃ (c2 : Nat),
W.cell? { block := b1, off := (0 : Nat) } = some (Value.slice a23 n3 c2) ∧
∃ (g5 : GGoes),
#[v1, Value.slice a23 n3 c2, Value.int IntKind.i64 (-1 : Int)] =
#[Value.func (Fn.func g5.f) #[] #[Value.pointer (some { block := g5.b, off := (0 : Nat) })],
Value.slice g5.a g5.l.length g5.c, Value.int IntKind.i64 g5.most] ∧
(IterAt Tryd.prog (Value.func (Fn.func g5.f) #[] #[Value.pointer (some { block := g5.b, off := (0 : Nat) })])
(List.map encIt (List.map (atN g5.s) g5.l)) g5.C W ∧
(∀ (q : Nat), g5.C q → q < W.heap.size) ∧
CellsAt W g5.a (List.flatMap (oneV g5.s) g5.l) ∧ g5.l.length ≤ (67108864 : Nat)) ∧
∀ (x5 : Unit) (w'5 : World),
Ext W w'5 →
∃ (v2 : Value),
w'5.cell? { block := b5, off := (0 : Nat) } = some v2 ∧
∃ (a25 : Option Addr),
∃ (n4 : Nat),
∃ (c3 : Nat),
w'5.cell? { block := b2, off := (0 : Nat) } = some (Value.slice a25 n4 c3) ∧
∃ (g6 : GGoes),
#[v2, Value.slice a25 n4 c3, Value.int IntKind.i64 (-1 : Int)] =
#[Value.func (Fn.func g6.f) #[] #[Value.pointer (some { block := g6.b, off := (0 : Nat) })],
Value.slice g6.a g6.l.length g6.c, Value.int IntKind.i64 g6.most] ∧
(IterAt Tryd.prog (Value.func (Fn.func g6.f) #[] #[Value.pointer (some { block := g6.b, off := (0 : Nat) })])
(List.map encIt (List.map (atN g6.s) g6.l)) g6.C w'5 ∧
(∀ (q : Nat), g6.C q → q < w'5.heap.size) ∧
CellsAt w'5 g6.a (List.flatMap (oneV g6.s) g6.l) ∧ g6.l.length ≤ (67108864 : Nat)) ∧
∀ (x6 : Unit) (w'6 : World), Ext w'5 w'6 → ∃ (c4 : Unit), Value.bool false = Value.bool false ∧ Ext W w'6)
(∃ (c2 : Unit), Value.bool false = Value.bool false ∧ Ext W W)) ∧
∀ (u1 : Nat → Value) (c2 : Unit) (w'5 : World),
Ext W w'5 →
(∃ (n1 : Int),
w'5.cell? { block := b6, off := (0 : Nat) } = some (Value.int IntKind.i64 n1) ∧
∃ (a24 : Option Addr),
∃ (n2 : Nat),
∃ (c3 : Nat),
w'5.cell? { block := b1, off := (0 : Nat) } = some (Value.slice a24 n2 c3) ∧
bcase (decide (n1 ≥ (↑n2 : Int))) (∃ (c4 : Unit), Value.bool true = Value.bool false ∧ w'5 = w'5)
(∃ (a25 : Option Addr),
∃ (n3 : Nat),
∃ (c4 : Nat),
w'5.cell? { block := b1, off := (0 : Nat) } = some (Value.slice a25 n3 c4) ∧
∃ (n4 : Int),
w'5.cell? { block := b6, off := (0 : Nat) } = some (Value.int IntKind.i64 n4) ∧
∃ (k1 : Nat),
n4 = (↑k1 : Int) ∧
k1 < n3 ∧
ptrE a25 fun (b7 o : Nat) =>
∃ (n5 : Int),
w'5.cell? { block := b7, off := o + k1 * (4 : Nat) } = some (Value.int IntKind.i64 n5) ∧
bcase (n5 != (↑x4.fst : Int)) (∃ (c5 : Unit), Value.bool true = Value.bool false ∧ w'5 = w'5)
(∃ (a26 : Option Addr),
∃ (n6 : Nat),
∃ (c5 : Nat),
w'5.cell? { block := b1, off := (0 : Nat) } = some (Value.slice a26 n6 c5) ∧
∃ (n7 : Int),
w'5.cell? { block := b6, off := (0 : Nat) } = some (Value.int IntKind.i64 n7) ∧
∃ (k2 : Nat),
n7 = (↑k2 : Int) ∧
k2 < n6 ∧
ptrE a26 fun (b8 o1 : Nat) =>
∃ (n8 : Int),
w'5.cell? { block := b8, off := o1 + k2 * (4 : Nat) + (1 : Nat) } = some (Value.int IntKind.i32 n8) ∧
∃ (c6 : Unit), Value.bool (n8 != x4.snd) = Value.bool false ∧ w'5 = w'5))) ∧
∀ (u2 : Nat → Value) (c3 : Unit) (w'6 : World),
w'6 = w'5 →
∃ (n1 : Int),
w'6.cell? { block := b6, off := (0 : Nat) } = some (Value.int IntKind.i64 n1) ∧
InR IntKind.i64 (n1 + (1 : Int)) ∧
true = true ∧
(∃ (old : Value), w'6.cell? { block := b6, off := (0 : Nat) } = some old) ∧
w'6.frozen? { block := b6, off := (0 : Nat) } = false ∧
∀ (w113 : World),
Stored w'6 { block := b6, off := (0 : Nat) } (Value.int IntKind.i64 (n1 + (1 : Int))) w113 →
∃ (D' : Nat → Prop),
Step D W w113 D' ∧
D' =
ones
[ptrB (Value.pointer (some { block := b6, off := (0 : Nat) })),
ptrB (Value.pointer (some { block := b, off := (0 : Nat) }))] ∧
w113.heap[ptrB (Value.pointer (some { block := b6, off := (0 : Nat) }))]? =
some (Obj.cells #[Value.int IntKind.i64 (↑(k + (1 : Nat)) : Int)] (3 : TypeId)) ∧
∃ (v1 : Bool),
w113.heap[ptrB (Value.pointer (some { block := b, off := (0 : Nat) }))]? =
some (Obj.cells #[Value.bool v1] (4 : TypeId))) ∧
(∀ (D : Nat → Prop) (W : World),
(D =
ones
[ptrB (Value.pointer (some { block := b6, off := (0 : Nat) })),
ptrB (Value.pointer (some { block := b, off := (0 : Nat) }))] ∧
W.heap[ptrB (Value.pointer (some { block := b6, off := (0 : Nat) }))]? =
some (Obj.cells #[Value.int IntKind.i64 (↑(lenX xs) : Int)] (3 : TypeId)) ∧
∃ (v1 : Bool),
W.heap[ptrB (Value.pointer (some { block := b, off := (0 : Nat) }))]? =
some (Obj.cells #[Value.bool v1] (4 : TypeId))) →
Mid w112 D0 D W →
∃ (n1 : Int),
W.cell? { block := b6, off := (0 : Nat) } = some (Value.int IntKind.i64 n1) ∧
∃ (a22 : Option Addr),
∃ (n2 : Nat),
∃ (c2 : Nat),
W.cell? { block := b1, off := (0 : Nat) } = some (Value.slice a22 n2 c2) ∧
bcase (n1 == (↑n2 : Int))
(∃ (g5 : Unit),
(#[] : Array Value) = #[] ∧
U8 W ∧
∀ (x4 : Unit) (w'5 : World),
Ext W w'5 →
true = true ∧
(∃ (old : Value), w'5.cell? { block := b, off := (0 : Nat) } = some old) ∧
w'5.frozen? { block := b, off := (0 : Nat) } = false ∧
∀ (w113 : World),
Stored w'5 { block := b, off := (0 : Nat) } (Value.bool true) w113 →
∃ (b7 : Bool),
w113.cell? { block := b, off := (0 : Nat) } = some (Value.bool b7) ∧
∀ (w2 : World), Turn w.heap.size w113 w2 → ∃ (x5 : Unit), Value.bool b7 = Value.bool true ∧ Ext w w2)
(true = true ∧
(∃ (old : Value), W.cell? { block := b, off := (0 : Nat) } = some old) ∧
W.frozen? { block := b, off := (0 : Nat) } = false ∧
∀ (w113 : World),
Stored W { block := b, off := (0 : Nat) } (Value.bool false) w113 →
∃ (b7 : Bool),
w113.cell? { block := b, off := (0 : Nat) } = some (Value.bool b7) ∧
∀ (w2 : World), Turn w.heap.size w113 w2 → ∃ (x4 : Unit), Value.bool b7 = Value.bool true ∧ Ext w w2)) ∧
∀ (D : Nat → Prop) (W : World),
(1 : Nat) = (0 : Nat) →
Mid w112 D0 D W →
∃ (b7 : Bool),
W.cell? { block := b, off := (0 : Nat) } = some (Value.bool b7) ∧
∀ (w2 : World), Turn w.heap.size W w2 → ∃ (x4 : Unit), Value.bool b7 = Value.bool true ∧ Ext w w2) :
    (sLawSI).Ok Tryd.prog 6 :=
  ok_of_vc sLawSI annLawGoes spGoes (fun _ _ => rfl) (fun _ _ => rfl) hsp Tryd.func6 rfl (n := 2) (fun _ => rfl) (by kernel_rfl) (vcast (by kernel_rfl) h)

end Go.Proofs.YthkcphnkllnfcaaDoor
